/- Ledger: Add. -/
import Derived.Test.YtcagfdmafelbkaaLed2
import Derived.Deep.RegionWith
import Derived.Deep.RegionLaw
import Derived.Deep.RegionHeld3
namespace Go.Proofs.Ytcagfdmafelbkaa
open Go.RowKit

theorem infoEntry : (Try.prog.info? 34).map (fun i => (i.zero, i.size, i.bytes)) = some (some (.agg #[.int .i64 0, .int .i64 0, .int .i64 0, .int .i64 0, .int .i64 0, .slice none 0 0]), 6, 64) := by kernel_rfl

theorem none_nil (w : World) : Calls Try.prog 55 #[.pointer none] w fun e w' => e = .returned (.bool true) ∧ w = w' := by
  go_enter Try.func55, Try.ntmps55
  go_wp2
  go_ret
  exact ⟨rfl, rfl⟩
theorem none_zero (w : World) (b : Nat) (h : w.cell? ⟨b, 0, none⟩ = some (.int .i64 0)) : Calls Try.prog 55 #[.pointer (some ⟨b, 0, none⟩)] w fun e w' => e = .returned (.bool true) ∧ w = w' := by
  go_enter Try.func55, Try.ntmps55
  go_wp2
  go_ret
  exact ⟨rfl, rfl⟩
theorem none_no (w : World) (b : Nat) (n : Int) (h : w.cell? ⟨b, 0, none⟩ = some (.int .i64 n)) (hn : 1 ≤ n) : Calls Try.prog 55 #[.pointer (some ⟨b, 0, none⟩)] w fun e w' => e = .returned (.bool false) ∧ w = w' := by
  have hn0 : (n == 0) = false := by simp; omega
  go_enter Try.func55, Try.ntmps55
  go_wp2
  go_ret
  exact ⟨rfl, rfl⟩

/-- An entry lies in a new block, ahead of the append. -/
theorem led_put {c : Col} {w : World} (hok : Ok c w) {k kr b : Nat} (hk0 : k ≠ 0) (hkr0 : kr ≠ 0) (hkk : k ≠ kr) {l : List Entry} {v : Value} (hcol : c b = k) (hv : w.cell? ⟨b, 1, none⟩ = some v) (hown : Own TEntry 34 c kr 0 w v l)
    {c1 : Col} {w1 : World} (hs : Step No c w c1 w1) (h1 : Ok c1 w1) {e : Entry} {bv : Value} (hb : Sl TByte c1 0 0 w1 bv e.bytes) :
    Ok c1 (w1.alloc (.cells #[.int .i64 e.now, .int .i64 e.who, .int .i64 e.kind, .int .i64 e.fault, .int .i64 e.id, bv] 34)) ∧
    Own TEntry 34 c1 kr 0 (w1.alloc (.cells #[.int .i64 e.now, .int .i64 e.who, .int .i64 e.kind, .int .i64 e.fault, .int .i64 e.id, bv] 34)) v l ∧
    Sl TEntry c1 0 0 (w1.alloc (.cells #[.int .i64 e.now, .int .i64 e.who, .int .i64 e.kind, .int .i64 e.fault, .int .i64 e.id, bv] 34)) (.slice (some ⟨w1.heap.size, 0, none⟩) 1 1) [e] ∧
    b < (w1.alloc (.cells #[.int .i64 e.now, .int .i64 e.who, .int .i64 e.kind, .int .i64 e.fault, .int .i64 e.id, bv] 34)).heap.size ∧ ¬ One kr (c1 b) ∧
    (w1.alloc (.cells #[.int .i64 e.now, .int .i64 e.who, .int .i64 e.kind, .int .i64 e.fault, .int .i64 e.id, bv] 34)).cell? ⟨b, 1, none⟩ = some v ∧
    (w1.alloc (.cells #[.int .i64 e.now, .int .i64 e.who, .int .i64 e.kind, .int .i64 e.fault, .int .i64 e.id, bv] 34)).frozen? ⟨b, 1, none⟩ = false ∧ w1.cell? ⟨b, 1, none⟩ = some v := by
  have hblt := World.block_lt_of_cell? w _ hv
  have hs1 := hs.alloc (.cells #[.int .i64 e.now, .int .i64 e.who, .int .i64 e.kind, .int .i64 e.fault, .int .i64 e.id, bv] 34)
  refine ⟨h1.alloc _, hown.keep hs1 (fun h => h) (fun h => h), ?_, Nat.lt_of_lt_of_le hblt hs1.size, ?_, (hs1.cell hblt (fun h => h)).trans hv, (hs1.frozen hblt (fun h => h)).trans (hok.soft b 1 (by rw [hcol]; exact hk0)), (hs.cell hblt (fun h => h)).trans hv⟩
  · refine Sl.single (vs := [.int .i64 e.now, .int .i64 e.who, .int .i64 e.kind, .int .i64 e.fault, .int .i64 e.id, bv]) ⟨bv, rfl, hb.keep ((Step.refl (K := No)).alloc _) (fun h => h) (fun h => h)⟩ (cellsAt_new w1 _ _ _) (by simp) (h1.fresh _ (Nat.le_refl _)) (Nat.le_refl _) (by simp [maxLen])
  · rw [hs.col b hblt (fun h => h), hcol]; exact hkk

theorem led_done {c : Col} {w : World} {k kr b : Nat} (hk0 : k ≠ 0) (hkr0 : kr ≠ 0) (hkk : k ≠ kr) {n : Int} {l l' : List Entry} (hL : IsLed c k kr w b n l) {c1 c2 : Col} {w1 w2 : World} (h1 : Step No c w c1 w1) (h2 : Step (One kr) c1 w1 c2 w2) (hok : Ok c2 w2)
    {v : Value} (hown : Own TEntry 34 c2 kr 0 w2 v l') : ∃ c', IsLed c' k kr (w2.setCell ⟨b, 1, none⟩ v) b n l' ∧ Step (Two k kr) c w c' (w2.setCell ⟨b, 1, none⟩ v) ∧ Ok c' (w2.setCell ⟨b, 1, none⟩ v) := by
  have hb := hL.lt
  have hs : Step (One kr) c w c2 w2 := h1.ofNo.trans h2
  have hnk : ¬ One kr (c b) := by rw [hL.col]; exact hkk
  have hcb : c2 b = k := (hs.col b hb hnk).trans hL.col
  obtain ⟨v0, hv0, _⟩ := hL.row
  have hv2 : w2.cell? ⟨b, 1, none⟩ = some v0 := (hs.cell hb hnk).trans hv0
  refine ⟨c2, ⟨hcb, ?_, v, World.cell?_setCell_same' _ _ _ (by rw [hv2]; rfl), hown.set (by rw [hcb]; exact hkk) (by rw [hcb]; exact hk0) _⟩, (hs.mono fun _ h => .inr h).setCell (.inr (.inl hL.col)) _, hok.setCell _ _⟩
  rw [World.cell?_setCell_other _ _ _ _ (by simp)]
  exact (hs.cell hb hnk).trans hL.num

theorem led_last {c : Col} {k k2 : Nat} {w : World} {v : Value} {l l0 : List Entry} {x : Entry} (hl : l = l0 ++ [x]) (h : Sl TEntry c k k2 w v l) :
    ∃ g off cap, v = .slice (some ⟨g, off, none⟩) l.length cap ∧ l.length ≤ cap ∧ cap ≤ maxLen ∧ g < w.heap.size ∧ w.cell? ⟨g, off + (l.length - 1) * 6, none⟩ = some (.int .i64 x.now) := by
  rcases h with ⟨rfl, _⟩ | ⟨g, off, cap, hv, h1, h2, h3, h4, h5⟩
  · simp at hl
  · obtain ⟨vs, ⟨bv, rfl, _⟩, hc⟩ := h5 l0.length x (by simp [hl])
    have := hc 0 (.int .i64 x.now) rfl
    rw [show l0.length = l.length - 1 by rw [hl]; simp] at this
    exact ⟨g, off, cap, hv, h1, h2, h4, this⟩

set_option maxRecDepth 100000 in
set_option maxHeartbeats 800000 in
theorem add_r1 {c : Col} {w : World} (hok : Ok c w) {k kr b : Nat} (hk0 : k ≠ 0) (hkr0 : kr ≠ 0) (hkk : k ≠ kr) {n : Int} {l : List Entry} (hL : IsLed c k kr w b n l) {kx : Nat} {vs : List Value} {e : Entry} (he : TEntry.rd c kx w vs e) (hn : 1 ≤ n) (h1 : e.who < 0) :
    Calls Try.prog 14 #[.pointer (some ⟨b, 0, none⟩), .agg vs.toArray] w fun r w' => r = .returned (.int .i64 3) ∧ Step No c w c w' ∧ Ok c w' := by
  obtain ⟨now, who, kind, fault, id, bytes⟩ := e
  have he' := he
  obtain ⟨bv, rfl, hb⟩ := he
  dsimp only at *
  obtain ⟨a, cap, rfl, hform⟩ := hb.form
  have hL2 := Lib.hid hL
  obtain ⟨hcol, hnum, v, hv, hown⟩ := hL
  have hblt := World.block_lt_of_cell? w _ hnum
  have hf := hok.soft b 1 (by rw [hcol]; exact hk0)
  obtain ⟨va, vc, rfl, _⟩ := hown.sl.form
  have d1 : decide (who < 0) = true := by simpa using h1
  have z1 := none_no (w.alloc (.cells #[.int .i64 now, .int .i64 who, .int .i64 kind, .int .i64 fault, .int .i64 id, .slice a bytes.length cap] 34)) b n (by rw [World.cell?_alloc_past _ _ _ hblt]; exact hnum) hn
  go_enter Try.func14, Try.ntmps14
  go_wp2_with (go_at_call 55; refine z1.mono ?_; rintro e w' ⟨rfl, rfl⟩)
  go_quiet (fail)
  go_wp2_with fail
  go_ret
  exact ⟨rfl, by repeat (first | exact Step.refl | refine Step.drewN ?_ _ | refine Step.drew ?_ | refine Step.alloc ?_ _), by repeat (first | exact hok | refine Ok.drewN ?_ _ | refine Ok.drew ?_ | refine Ok.alloc ?_ _)⟩

set_option maxRecDepth 100000 in
set_option maxHeartbeats 800000 in
theorem add_r2 {c : Col} {w : World} (hok : Ok c w) {k kr b : Nat} (hk0 : k ≠ 0) (hkr0 : kr ≠ 0) (hkk : k ≠ kr) {n : Int} {l : List Entry} (hL : IsLed c k kr w b n l) {kx : Nat} {vs : List Value} {e : Entry} (he : TEntry.rd c kx w vs e) (hn : 1 ≤ n) (h1 : 0 ≤ e.who) (h2 : n ≤ e.who) :
    Calls Try.prog 14 #[.pointer (some ⟨b, 0, none⟩), .agg vs.toArray] w fun r w' => r = .returned (.int .i64 3) ∧ Step No c w c w' ∧ Ok c w' := by
  obtain ⟨now, who, kind, fault, id, bytes⟩ := e
  have he' := he
  obtain ⟨bv, rfl, hb⟩ := he
  dsimp only at *
  obtain ⟨a, cap, rfl, hform⟩ := hb.form
  have hL2 := Lib.hid hL
  obtain ⟨hcol, hnum, v, hv, hown⟩ := hL
  have hblt := World.block_lt_of_cell? w _ hnum
  have hf := hok.soft b 1 (by rw [hcol]; exact hk0)
  obtain ⟨va, vc, rfl, _⟩ := hown.sl.form
  have d1 : decide (who < 0) = false := by simpa using h1
  have d2 : decide (n ≤ who) = true := by simpa using h2
  have z1 := none_no (w.alloc (.cells #[.int .i64 now, .int .i64 who, .int .i64 kind, .int .i64 fault, .int .i64 id, .slice a bytes.length cap] 34)) b n (by rw [World.cell?_alloc_past _ _ _ hblt]; exact hnum) hn
  go_enter Try.func14, Try.ntmps14
  go_wp2_with (go_at_call 55; refine z1.mono ?_; rintro e w' ⟨rfl, rfl⟩)
  go_quiet (fail)
  go_wp2_with fail
  go_ret
  exact ⟨rfl, by repeat (first | exact Step.refl | refine Step.drewN ?_ _ | refine Step.drew ?_ | refine Step.alloc ?_ _), by repeat (first | exact hok | refine Ok.drewN ?_ _ | refine Ok.drew ?_ | refine Ok.alloc ?_ _)⟩

set_option maxRecDepth 100000 in
set_option maxHeartbeats 800000 in
theorem add_r3 {c : Col} {w : World} (hok : Ok c w) {k kr b : Nat} (hk0 : k ≠ 0) (hkr0 : kr ≠ 0) (hkk : k ≠ kr) {n : Int} {l : List Entry} (hL : IsLed c k kr w b n l) {kx : Nat} {vs : List Value} {e : Entry} (he : TEntry.rd c kx w vs e) (hn : 1 ≤ n) (h1 : 0 ≤ e.who) (h2 : e.who < n) (h3 : e.now < 0) :
    Calls Try.prog 14 #[.pointer (some ⟨b, 0, none⟩), .agg vs.toArray] w fun r w' => r = .returned (.int .i64 3) ∧ Step No c w c w' ∧ Ok c w' := by
  obtain ⟨now, who, kind, fault, id, bytes⟩ := e
  have he' := he
  obtain ⟨bv, rfl, hb⟩ := he
  dsimp only at *
  obtain ⟨a, cap, rfl, hform⟩ := hb.form
  have hL2 := Lib.hid hL
  obtain ⟨hcol, hnum, v, hv, hown⟩ := hL
  have hblt := World.block_lt_of_cell? w _ hnum
  have hf := hok.soft b 1 (by rw [hcol]; exact hk0)
  obtain ⟨va, vc, rfl, _⟩ := hown.sl.form
  have d1 : decide (who < 0) = false := by simpa using h1
  have d2 : decide (n ≤ who) = false := by simpa using h2
  have d3 : decide (now < 0) = true := by simpa using h3
  have z1 := none_no (w.alloc (.cells #[.int .i64 now, .int .i64 who, .int .i64 kind, .int .i64 fault, .int .i64 id, .slice a bytes.length cap] 34)) b n (by rw [World.cell?_alloc_past _ _ _ hblt]; exact hnum) hn
  go_enter Try.func14, Try.ntmps14
  go_wp2_with (go_at_call 55; refine z1.mono ?_; rintro e w' ⟨rfl, rfl⟩)
  go_quiet (fail)
  go_wp2_with fail
  go_ret
  exact ⟨rfl, by repeat (first | exact Step.refl | refine Step.drewN ?_ _ | refine Step.drew ?_ | refine Step.alloc ?_ _), by repeat (first | exact hok | refine Ok.drewN ?_ _ | refine Ok.drew ?_ | refine Ok.alloc ?_ _)⟩

set_option maxRecDepth 100000 in
set_option maxHeartbeats 800000 in
theorem add_r4 {c : Col} {w : World} (hok : Ok c w) {k kr b : Nat} (hk0 : k ≠ 0) (hkr0 : kr ≠ 0) (hkk : k ≠ kr) {n : Int} {l : List Entry} (hL : IsLed c k kr w b n l) {kx : Nat} {vs : List Value} {e : Entry} (he : TEntry.rd c kx w vs e) (hn : 1 ≤ n) (h1 : 0 ≤ e.who) (h2 : e.who < n) (h3 : 0 ≤ e.now) (h4 : 1099511627776 < e.now) :
    Calls Try.prog 14 #[.pointer (some ⟨b, 0, none⟩), .agg vs.toArray] w fun r w' => r = .returned (.int .i64 3) ∧ Step No c w c w' ∧ Ok c w' := by
  obtain ⟨now, who, kind, fault, id, bytes⟩ := e
  have he' := he
  obtain ⟨bv, rfl, hb⟩ := he
  dsimp only at *
  obtain ⟨a, cap, rfl, hform⟩ := hb.form
  have hL2 := Lib.hid hL
  obtain ⟨hcol, hnum, v, hv, hown⟩ := hL
  have hblt := World.block_lt_of_cell? w _ hnum
  have hf := hok.soft b 1 (by rw [hcol]; exact hk0)
  obtain ⟨va, vc, rfl, _⟩ := hown.sl.form
  have d1 : decide (who < 0) = false := by simpa using h1
  have d2 : decide (n ≤ who) = false := by simpa using h2
  have d3 : decide (now < 0) = false := by simpa using h3
  have d4 : decide (1099511627776 < now) = true := by simpa using h4
  have z1 := none_no (w.alloc (.cells #[.int .i64 now, .int .i64 who, .int .i64 kind, .int .i64 fault, .int .i64 id, .slice a bytes.length cap] 34)) b n (by rw [World.cell?_alloc_past _ _ _ hblt]; exact hnum) hn
  go_enter Try.func14, Try.ntmps14
  go_wp2_with (go_at_call 55; refine z1.mono ?_; rintro e w' ⟨rfl, rfl⟩)
  go_quiet (fail)
  go_wp2_with fail
  go_ret
  exact ⟨rfl, by repeat (first | exact Step.refl | refine Step.drewN ?_ _ | refine Step.drew ?_ | refine Step.alloc ?_ _), by repeat (first | exact hok | refine Ok.drewN ?_ _ | refine Ok.drew ?_ | refine Ok.alloc ?_ _)⟩

set_option maxRecDepth 100000 in
set_option maxHeartbeats 800000 in
theorem add_f1 {c : Col} {w : World} (hok : Ok c w) {k kr b : Nat} (hk0 : k ≠ 0) (hkr0 : kr ≠ 0) (hkk : k ≠ kr) {n : Int} {l : List Entry} (hL : IsLed c k kr w b n l) {kx : Nat} {vs : List Value} {e : Entry} (he : TEntry.rd c kx w vs e) (hn : 1 ≤ n) (h1 : 0 ≤ e.who) (h2 : e.who < n) (h3 : 0 ≤ e.now) (h4 : e.now ≤ 1099511627776) (h5 : e.kind < 1) :
    Calls Try.prog 14 #[.pointer (some ⟨b, 0, none⟩), .agg vs.toArray] w fun r w' => r = .returned (.int .i64 5) ∧ Step No c w c w' ∧ Ok c w' := by
  obtain ⟨now, who, kind, fault, id, bytes⟩ := e
  have he' := he
  obtain ⟨bv, rfl, hb⟩ := he
  dsimp only at *
  obtain ⟨a, cap, rfl, hform⟩ := hb.form
  have hL2 := Lib.hid hL
  obtain ⟨hcol, hnum, v, hv, hown⟩ := hL
  have hblt := World.block_lt_of_cell? w _ hnum
  have hf := hok.soft b 1 (by rw [hcol]; exact hk0)
  obtain ⟨va, vc, rfl, _⟩ := hown.sl.form
  have d1 : decide (who < 0) = false := by simpa using h1
  have d2 : decide (n ≤ who) = false := by simpa using h2
  have d3 : decide (now < 0) = false := by simpa using h3
  have d4 : decide (1099511627776 < now) = false := by simpa using h4
  have d5 : decide (kind < 1) = true := by simpa using h5
  have z1 := none_no (w.alloc (.cells #[.int .i64 now, .int .i64 who, .int .i64 kind, .int .i64 fault, .int .i64 id, .slice a bytes.length cap] 34)) b n (by rw [World.cell?_alloc_past _ _ _ hblt]; exact hnum) hn
  go_enter Try.func14, Try.ntmps14
  go_wp2_with (go_at_call 55; refine z1.mono ?_; rintro e w' ⟨rfl, rfl⟩)
  go_quiet (fail)
  go_wp2_with fail
  go_ret
  exact ⟨rfl, by repeat (first | exact Step.refl | refine Step.drewN ?_ _ | refine Step.drew ?_ | refine Step.alloc ?_ _), by repeat (first | exact hok | refine Ok.drewN ?_ _ | refine Ok.drew ?_ | refine Ok.alloc ?_ _)⟩

set_option maxRecDepth 100000 in
set_option maxHeartbeats 800000 in
theorem add_f2 {c : Col} {w : World} (hok : Ok c w) {k kr b : Nat} (hk0 : k ≠ 0) (hkr0 : kr ≠ 0) (hkk : k ≠ kr) {n : Int} {l : List Entry} (hL : IsLed c k kr w b n l) {kx : Nat} {vs : List Value} {e : Entry} (he : TEntry.rd c kx w vs e) (hn : 1 ≤ n) (h1 : 0 ≤ e.who) (h2 : e.who < n) (h3 : 0 ≤ e.now) (h4 : e.now ≤ 1099511627776) (h5 : 1 ≤ e.kind) (h6 : 3 < e.kind) :
    Calls Try.prog 14 #[.pointer (some ⟨b, 0, none⟩), .agg vs.toArray] w fun r w' => r = .returned (.int .i64 5) ∧ Step No c w c w' ∧ Ok c w' := by
  obtain ⟨now, who, kind, fault, id, bytes⟩ := e
  have he' := he
  obtain ⟨bv, rfl, hb⟩ := he
  dsimp only at *
  obtain ⟨a, cap, rfl, hform⟩ := hb.form
  have hL2 := Lib.hid hL
  obtain ⟨hcol, hnum, v, hv, hown⟩ := hL
  have hblt := World.block_lt_of_cell? w _ hnum
  have hf := hok.soft b 1 (by rw [hcol]; exact hk0)
  obtain ⟨va, vc, rfl, _⟩ := hown.sl.form
  have d1 : decide (who < 0) = false := by simpa using h1
  have d2 : decide (n ≤ who) = false := by simpa using h2
  have d3 : decide (now < 0) = false := by simpa using h3
  have d4 : decide (1099511627776 < now) = false := by simpa using h4
  have d5 : decide (kind < 1) = false := by simpa using h5
  have d6 : decide (3 < kind) = true := by simpa using h6
  have z1 := none_no (w.alloc (.cells #[.int .i64 now, .int .i64 who, .int .i64 kind, .int .i64 fault, .int .i64 id, .slice a bytes.length cap] 34)) b n (by rw [World.cell?_alloc_past _ _ _ hblt]; exact hnum) hn
  go_enter Try.func14, Try.ntmps14
  go_wp2_with (go_at_call 55; refine z1.mono ?_; rintro e w' ⟨rfl, rfl⟩)
  go_quiet (fail)
  go_wp2_with fail
  go_ret
  exact ⟨rfl, by repeat (first | exact Step.refl | refine Step.drewN ?_ _ | refine Step.drew ?_ | refine Step.alloc ?_ _), by repeat (first | exact hok | refine Ok.drewN ?_ _ | refine Ok.drew ?_ | refine Ok.alloc ?_ _)⟩

set_option maxRecDepth 100000 in
set_option maxHeartbeats 800000 in
theorem add_ord {c : Col} {w : World} (hok : Ok c w) {k kr b : Nat} (hk0 : k ≠ 0) (hkr0 : kr ≠ 0) (hkk : k ≠ kr) {n : Int} {l : List Entry} (hL : IsLed c k kr w b n l) {kx : Nat} {vs : List Value} {e : Entry} (he : TEntry.rd c kx w vs e) (hn : 1 ≤ n) (h1 : 0 ≤ e.who) (h2 : e.who < n) (h3 : 0 ≤ e.now) (h4 : e.now ≤ 1099511627776) (h5 : 1 ≤ e.kind) (h6 : e.kind ≤ 3) {l0 : List Entry} {x : Entry} (h7 : l = l0 ++ [x]) (h8 : e.now < x.now) :
    Calls Try.prog 14 #[.pointer (some ⟨b, 0, none⟩), .agg vs.toArray] w fun r w' => r = .returned (.int .i64 9) ∧ Step No c w c w' ∧ Ok c w' := by
  obtain ⟨now, who, kind, fault, id, bytes⟩ := e
  have he' := he
  obtain ⟨bv, rfl, hb⟩ := he
  dsimp only at *
  obtain ⟨a, cap, rfl, hform⟩ := hb.form
  have hL2 := Lib.hid hL
  obtain ⟨hcol, hnum, v, hv, hown⟩ := hL
  have hblt := World.block_lt_of_cell? w _ hnum
  have hf := hok.soft b 1 (by rw [hcol]; exact hk0)
  obtain ⟨va, vc, rfl, _⟩ := hown.sl.form
  have d1 : decide (who < 0) = false := by simpa using h1
  have d2 : decide (n ≤ who) = false := by simpa using h2
  have d3 : decide (now < 0) = false := by simpa using h3
  have d4 : decide (1099511627776 < now) = false := by simpa using h4
  have d5 : decide (kind < 1) = false := by simpa using h5
  have d6 : decide (3 < kind) = false := by simpa using h6
  obtain ⟨g, off, cp, hcp, hlc, hcm, hgl, hlast⟩ := led_last h7 hown.sl
  cases hcp
  obtain ⟨m, hm⟩ : ∃ m, l.length = m + 1 := ⟨l0.length, by rw [h7]; simp⟩
  rw [hm] at hlast hlc
  simp only [hm] at hv hown
  have HM := Lib.hid hm
  
  clear hm h7
  simp only [Nat.add_sub_cancel] at hlast
  have hm0 : (0 : Int) ≤ m := by omega
  have hm1 : (m : Int) < (m : Int) + 1 := by omega
  unfold maxLen at hcm
  have hw1 : IntKind.i64.wrap (m : Int) = (m : Int) := IntWalk.i64_in _ (by omega)
  have d8 : decide (3 < kind) = false := by simpa using h6
  have z1 := none_no (w.alloc (.cells #[.int .i64 now, .int .i64 who, .int .i64 kind, .int .i64 fault, .int .i64 id, .slice a bytes.length cap] 34)) b n (by rw [World.cell?_alloc_past _ _ _ hblt]; exact hnum) hn
  go_enter Try.func14, Try.ntmps14
  go_wp2_with (go_at_call 55; refine z1.mono ?_; rintro e w' ⟨rfl, rfl⟩)
  go_quiet (fail)
  go_wp2_with fail
  go_quiet (fail)
  go_wp2_with fail
  go_ret
  exact ⟨rfl, by repeat (first | exact Step.refl | refine Step.drewN ?_ _ | refine Step.drew ?_ | refine Step.alloc ?_ _), by repeat (first | exact hok | refine Ok.drewN ?_ _ | refine Ok.drew ?_ | refine Ok.alloc ?_ _)⟩

set_option maxRecDepth 100000 in
set_option maxHeartbeats 800000 in
theorem add_full {c : Col} {w : World} (hok : Ok c w) {k kr b : Nat} (hk0 : k ≠ 0) (hkr0 : kr ≠ 0) (hkk : k ≠ kr) {n : Int} {l : List Entry} (hL : IsLed c k kr w b n l) {kx : Nat} {vs : List Value} {e : Entry} (he : TEntry.rd c kx w vs e) (hn : 1 ≤ n) (h1 : 0 ≤ e.who) (h2 : e.who < n) (h3 : 0 ≤ e.now) (h4 : e.now ≤ 1099511627776) (h5 : 1 ≤ e.kind) (h6 : e.kind ≤ 3) {l0 : List Entry} {x : Entry} (h7 : l = l0 ++ [x]) (h8 : x.now ≤ e.now) (h9 : 65536 ≤ l.length) :
    Calls Try.prog 14 #[.pointer (some ⟨b, 0, none⟩), .agg vs.toArray] w fun r w' => r = .returned (.int .i64 7) ∧ Step No c w c w' ∧ Ok c w' := by
  obtain ⟨now, who, kind, fault, id, bytes⟩ := e
  have he' := he
  obtain ⟨bv, rfl, hb⟩ := he
  dsimp only at *
  obtain ⟨a, cap, rfl, hform⟩ := hb.form
  have hL2 := Lib.hid hL
  obtain ⟨hcol, hnum, v, hv, hown⟩ := hL
  have hblt := World.block_lt_of_cell? w _ hnum
  have hf := hok.soft b 1 (by rw [hcol]; exact hk0)
  obtain ⟨va, vc, rfl, _⟩ := hown.sl.form
  have d1 : decide (who < 0) = false := by simpa using h1
  have d2 : decide (n ≤ who) = false := by simpa using h2
  have d3 : decide (now < 0) = false := by simpa using h3
  have d4 : decide (1099511627776 < now) = false := by simpa using h4
  have d5 : decide (kind < 1) = false := by simpa using h5
  have d6 : decide (3 < kind) = false := by simpa using h6
  obtain ⟨g, off, cp, hcp, hlc, hcm, hgl, hlast⟩ := led_last h7 hown.sl
  cases hcp
  obtain ⟨m, hm⟩ : ∃ m, l.length = m + 1 := ⟨l0.length, by rw [h7]; simp⟩
  rw [hm] at hlast hlc
  simp only [hm] at hv hown
  have HM := Lib.hid hm
  have hd7 : decide ((65536 : Int) ≤ (m : Int) + 1) = true := by simp; omega
  clear h9
  clear hm h7
  simp only [Nat.add_sub_cancel] at hlast
  have hm0 : (0 : Int) ≤ m := by omega
  have hm1 : (m : Int) < (m : Int) + 1 := by omega
  unfold maxLen at hcm
  have hw1 : IntKind.i64.wrap (m : Int) = (m : Int) := IntWalk.i64_in _ (by omega)
  have z1 := none_no (w.alloc (.cells #[.int .i64 now, .int .i64 who, .int .i64 kind, .int .i64 fault, .int .i64 id, .slice a bytes.length cap] 34)) b n (by rw [World.cell?_alloc_past _ _ _ hblt]; exact hnum) hn
  go_enter Try.func14, Try.ntmps14
  go_wp2_with (go_at_call 55; refine z1.mono ?_; rintro e w' ⟨rfl, rfl⟩)
  go_quiet (fail)
  go_wp2_with fail
  go_quiet (fail)
  go_wp2_with fail
  go_ret
  exact ⟨rfl, by repeat (first | exact Step.refl | refine Step.drewN ?_ _ | refine Step.drew ?_ | refine Step.alloc ?_ _), by repeat (first | exact hok | refine Ok.drewN ?_ _ | refine Ok.drew ?_ | refine Ok.alloc ?_ _)⟩

set_option maxRecDepth 100000 in
set_option maxHeartbeats 800000 in
theorem add_ok0 {c : Col} {w : World} (hok : Ok c w) {k kr b : Nat} (hk0 : k ≠ 0) (hkr0 : kr ≠ 0) (hkk : k ≠ kr) {n : Int} {l : List Entry} (hL : IsLed c k kr w b n l) {kx : Nat} {vs : List Value} {e : Entry} (he : TEntry.rd c kx w vs e) (hn : 1 ≤ n) (h1 : 0 ≤ e.who) (h2 : e.who < n) (h3 : 0 ≤ e.now) (h4 : e.now ≤ 1099511627776) (h5 : 1 ≤ e.kind) (h6 : e.kind ≤ 3) (hlen : e.bytes.length ≤ 1000000000) (h7 : l = []) :
    Calls Try.prog 14 #[.pointer (some ⟨b, 0, none⟩), .agg vs.toArray] w fun r w' => r = .returned (.int .i64 0) ∧ ∃ c', IsLed c' k kr w' b n (l ++ [e.kept]) ∧ Step (Two k kr) c w c' w' ∧ Ok c' w' := by
  obtain ⟨now, who, kind, fault, id, bytes⟩ := e
  have he' := he
  obtain ⟨bv, rfl, hb⟩ := he
  dsimp only at *
  obtain ⟨a, cap, rfl, hform⟩ := hb.form
  have hL2 := Lib.hid hL
  obtain ⟨hcol, hnum, v, hv, hown⟩ := hL
  have hblt := World.block_lt_of_cell? w _ hnum
  have hf := hok.soft b 1 (by rw [hcol]; exact hk0)
  obtain ⟨va, vc, rfl, _⟩ := hown.sl.form
  subst h7
  have Y1 : Hid (([] : List Entry).length + [Entry.kept ⟨now, who, kind, fault, id, bytes⟩].length ≤ maxLen) := by show _ ≤ _; simp [maxLen]
  have Y2 : Hid ((([] : List Entry).length + [Entry.kept ⟨now, who, kind, fault, id, bytes⟩].length) * 64 ≤ 140737488355328) := by show _ ≤ _; simp
  simp only [List.length_nil] at hv hown
  have d1 : decide (who < 0) = false := by simpa using h1
  have d2 : decide (n ≤ who) = false := by simpa using h2
  have d3 : decide (now < 0) = false := by simpa using h3
  have d4 : decide (1099511627776 < now) = false := by simpa using h4
  have d5 : decide (kind < 1) = false := by simpa using h5
  have d6 : decide (3 < kind) = false := by simpa using h6
  have z1 := none_no (w.alloc (.cells #[.int .i64 now, .int .i64 who, .int .i64 kind, .int .i64 fault, .int .i64 id, .slice a bytes.length cap] 34)) b n (by rw [World.cell?_alloc_past _ _ _ hblt]; exact hnum) hn
  go_enter Try.func14, Try.ntmps14
  go_wp2_with (go_at_call 55; refine z1.mono ?_; rintro e w' ⟨rfl, rfl⟩)
  go_quiet (fail)
  go_wp2_with fail
  go_quiet (fail)
  go_wp2_with fail
  have J0 : ∀ nq, Step No c w c ((w.alloc (.cells #[.int .i64 now, .int .i64 who, .int .i64 kind, .int .i64 fault, .int .i64 id, .slice a bytes.length cap] 34)).drewN nq) := fun nq => (Step.refl.alloc _).drewN nq
  have J1 : ∀ nq, Ok c ((w.alloc (.cells #[.int .i64 now, .int .i64 who, .int .i64 kind, .int .i64 fault, .int .i64 id, .slice a bytes.length cap] 34)).drewN nq) := fun nq => (hok.alloc _).drewN nq
  have J2 := fun nq => TEntry.keep (J0 nq) (fun h => h) he'
  go_region_law (first | (refine step_app TEntry X1 rfl _ _ 22 rfl 34 Try.underlying22 infoEntry rfl (by decide) rfl rfl X2 X3 (Ne.symm hkr0) Y1.out Y2.out ?_; intro v' w' c' b1 b2 b3 _; obtain ⟨va', vc', rfl, _⟩ := b1.sl.form; have e1 := (b2.cell (b := b) (o := 1) X4 X5).trans X6; have e2 := (b2.frozen (b := b) (o := 1) X4 X5).trans X7) | (go_simp; go_at_call 56; refine (kept_any (J1 _) 0 (J2 _) hlen).mono ?_; rintro r w1 ⟨vs', c1, rfl, ⟨bv', rfl, a1⟩, a2, a3⟩; obtain ⟨X1, X2, X3, X4, X5, X6, X7, X8⟩ := led_put hok hk0 hkr0 hkk hcol hv hown ((J0 _).trans a2) a3 (e := Entry.kept ⟨now, who, kind, fault, id, bytes⟩) a1; obtain ⟨av', cv', rfl, _⟩ := a1.form))
  all_goals go_wp2_with fail
  all_goals go_ret
  all_goals exact ⟨rfl, led_done hk0 hkr0 hkk hL2.out (((J0 _).trans a2).alloc _) b2 b3 (by simpa using b1)⟩

set_option maxRecDepth 100000 in
set_option maxHeartbeats 800000 in
theorem add_ok1 {c : Col} {w : World} (hok : Ok c w) {k kr b : Nat} (hk0 : k ≠ 0) (hkr0 : kr ≠ 0) (hkk : k ≠ kr) {n : Int} {l : List Entry} (hL : IsLed c k kr w b n l) {kx : Nat} {vs : List Value} {e : Entry} (he : TEntry.rd c kx w vs e) (hn : 1 ≤ n) (h1 : 0 ≤ e.who) (h2 : e.who < n) (h3 : 0 ≤ e.now) (h4 : e.now ≤ 1099511627776) (h5 : 1 ≤ e.kind) (h6 : e.kind ≤ 3) (hlen : e.bytes.length ≤ 1000000000) {l0 : List Entry} {x : Entry} (h7 : l = l0 ++ [x]) (h8 : x.now ≤ e.now) (h9 : l.length < 65536) :
    Calls Try.prog 14 #[.pointer (some ⟨b, 0, none⟩), .agg vs.toArray] w fun r w' => r = .returned (.int .i64 0) ∧ ∃ c', IsLed c' k kr w' b n (l ++ [e.kept]) ∧ Step (Two k kr) c w c' w' ∧ Ok c' w' := by
  obtain ⟨now, who, kind, fault, id, bytes⟩ := e
  have he' := he
  obtain ⟨bv, rfl, hb⟩ := he
  dsimp only at *
  obtain ⟨a, cap, rfl, hform⟩ := hb.form
  have hL2 := Lib.hid hL
  obtain ⟨hcol, hnum, v, hv, hown⟩ := hL
  have hblt := World.block_lt_of_cell? w _ hnum
  have hf := hok.soft b 1 (by rw [hcol]; exact hk0)
  obtain ⟨va, vc, rfl, _⟩ := hown.sl.form
  have Y1 : Hid (l.length + [Entry.kept ⟨now, who, kind, fault, id, bytes⟩].length ≤ maxLen) := by show _ ≤ _; simp [maxLen]; omega
  have Y2 : Hid ((l.length + [Entry.kept ⟨now, who, kind, fault, id, bytes⟩].length) * 64 ≤ 140737488355328) := by show _ ≤ _; simp; omega
  have d1 : decide (who < 0) = false := by simpa using h1
  have d2 : decide (n ≤ who) = false := by simpa using h2
  have d3 : decide (now < 0) = false := by simpa using h3
  have d4 : decide (1099511627776 < now) = false := by simpa using h4
  have d5 : decide (kind < 1) = false := by simpa using h5
  have d6 : decide (3 < kind) = false := by simpa using h6
  obtain ⟨g, off, cp, hcp, hlc, hcm, hgl, hlast⟩ := led_last h7 hown.sl
  cases hcp
  obtain ⟨m, hm⟩ : ∃ m, l.length = m + 1 := ⟨l0.length, by rw [h7]; simp⟩
  rw [hm] at hlast hlc
  simp only [hm] at hv hown
  have HM := Lib.hid hm
  have hd7 : decide ((65536 : Int) ≤ (m : Int) + 1) = false := by simp; omega
  clear h9
  clear hm h7
  simp only [Nat.add_sub_cancel] at hlast
  have hm0 : (0 : Int) ≤ m := by omega
  have hm1 : (m : Int) < (m : Int) + 1 := by omega
  unfold maxLen at hcm
  have hw1 : IntKind.i64.wrap (m : Int) = (m : Int) := IntWalk.i64_in _ (by omega)
  have z1 := none_no (w.alloc (.cells #[.int .i64 now, .int .i64 who, .int .i64 kind, .int .i64 fault, .int .i64 id, .slice a bytes.length cap] 34)) b n (by rw [World.cell?_alloc_past _ _ _ hblt]; exact hnum) hn
  go_enter Try.func14, Try.ntmps14
  go_wp2_with (go_at_call 55; refine z1.mono ?_; rintro e w' ⟨rfl, rfl⟩)
  go_quiet (fail)
  go_wp2_with fail
  go_quiet (fail)
  go_wp2_with fail
  have J0 : ∀ nq, Step No c w c ((w.alloc (.cells #[.int .i64 now, .int .i64 who, .int .i64 kind, .int .i64 fault, .int .i64 id, .slice a bytes.length cap] 34)).drewN nq) := fun nq => (Step.refl.alloc _).drewN nq
  have J1 : ∀ nq, Ok c ((w.alloc (.cells #[.int .i64 now, .int .i64 who, .int .i64 kind, .int .i64 fault, .int .i64 id, .slice a bytes.length cap] 34)).drewN nq) := fun nq => (hok.alloc _).drewN nq
  have J2 := fun nq => TEntry.keep (J0 nq) (fun h => h) he'
  go_region_law (first | (refine step_app TEntry X1 rfl _ _ 22 rfl 34 Try.underlying22 infoEntry rfl (by decide) rfl rfl X2 X3 (Ne.symm hkr0) Y1.out Y2.out ?_; intro v' w' c' b1 b2 b3 _; obtain ⟨va', vc', rfl, _⟩ := b1.sl.form; have e1 := (b2.cell (b := b) (o := 1) X4 X5).trans X6; have e2 := (b2.frozen (b := b) (o := 1) X4 X5).trans X7) | (go_simp; go_at_call 56; refine (kept_any (J1 _) 0 (J2 _) hlen).mono ?_; rintro r w1 ⟨vs', c1, rfl, ⟨bv', rfl, a1⟩, a2, a3⟩; obtain ⟨X1, X2, X3, X4, X5, X6, X7, X8⟩ := led_put hok hk0 hkr0 hkk hcol hv hown ((J0 _).trans a2) a3 (e := Entry.kept ⟨now, who, kind, fault, id, bytes⟩) a1; obtain ⟨av', cv', rfl, _⟩ := a1.form))
  all_goals go_wp2_with fail
  all_goals go_ret
  all_goals exact ⟨rfl, led_done hk0 hkr0 hkk hL2.out (((J0 _).trans a2).alloc _) b2 b3 (by simpa using b1)⟩


theorem add_any {c : Col} {w : World} (hok : Ok c w) {k kr b : Nat} (hk0 : k ≠ 0) (hkr0 : kr ≠ 0) (hkk : k ≠ kr) {n : Int} {l : List Entry} (hL : IsLed c k kr w b n l) {kx : Nat} {vs : List Value} {e : Entry} (he : TEntry.rd c kx w vs e) (hn : 1 ≤ n) (hlen : e.bytes.length ≤ 1000000000) :
    Calls Try.prog 14 #[.pointer (some ⟨b, 0, none⟩), .agg vs.toArray] w fun r w' => r = .returned (.int .i64 (addErr n l e)) ∧ ∃ c', IsLed c' k kr w' b n (addNew n l e) ∧ Step (Two k kr) c w c' w' ∧ Ok c' w' := by
  have key : ∀ {r : Ending} {w' : World} {x : Int}, x ≠ 0 → addErr n l e = x → (r = .returned (.int .i64 x) ∧ Step No c w c w' ∧ Ok c w') → r = .returned (.int .i64 (addErr n l e)) ∧ ∃ c', IsLed c' k kr w' b n (addNew n l e) ∧ Step (Two k kr) c w c' w' ∧ Ok c' w' := by
    intro r w' x hx ha ⟨h1, h2, h3⟩
    refine ⟨by rw [ha]; exact h1, c, ?_, h2.ofNo, h3⟩
    simp only [addNew, ha, if_neg hx]
    exact hL.keep h2 (fun h => h) (fun h => h) (fun h => h)
  by_cases h1 : e.who < 0
  · exact (add_r1 hok hk0 hkr0 hkk hL he hn h1).mono fun _ _ h => key (by decide) (by simp [addErr, h1]) h
  by_cases h2 : n ≤ e.who
  · exact (add_r2 hok hk0 hkr0 hkk hL he hn (by omega) h2).mono fun _ _ h => key (by decide) (by simp [addErr, h2]) h
  by_cases h3 : e.now < 0
  · exact (add_r3 hok hk0 hkr0 hkk hL he hn (by omega) (by omega) h3).mono fun _ _ h => key (by decide) (by simp [addErr, h3]) h
  by_cases h4 : 1099511627776 < e.now
  · exact (add_r4 hok hk0 hkr0 hkk hL he hn (by omega) (by omega) (by omega) h4).mono fun _ _ h => key (by decide) (by simp [addErr, h4]) h
  have hr : ¬ (e.who < 0 ∨ n ≤ e.who ∨ e.now < 0 ∨ 1099511627776 < e.now) := by omega
  by_cases h5 : e.kind < 1
  · exact (add_f1 hok hk0 hkr0 hkk hL he hn (by omega) (by omega) (by omega) (by omega) h5).mono fun _ _ h => key (by decide) (by simp only [addErr, if_neg hr, h5, true_or, if_true]) h
  by_cases h6 : 3 < e.kind
  · exact (add_f2 hok hk0 hkr0 hkk hL he hn (by omega) (by omega) (by omega) (by omega) (by omega) h6).mono fun _ _ h => key (by decide) (by simp only [addErr, if_neg hr, h6, or_true, if_true]) h
  have hq : ¬ (e.kind < 1 ∨ 3 < e.kind) := by omega
  rcases List.eq_nil_or_concat l with h7 | ⟨l0, x, h7⟩
  · have ha : addErr n l e = 0 := by simp only [addErr, if_neg hr, if_neg hq]; subst h7; simp
    refine (add_ok0 hok hk0 hkr0 hkk hL he hn (by omega) (by omega) (by omega) (by omega) (by omega) (by omega) hlen h7).mono fun _ _ h => ?_
    simp only [addNew, ha, if_true]; exact h
  · rw [List.concat_eq_append] at h7
    have hg : (l.getLast?.map (·.now)) = some x.now := by subst h7; simp
    by_cases h8 : e.now < x.now
    · exact (add_ord hok hk0 hkr0 hkk hL he hn (by omega) (by omega) (by omega) (by omega) (by omega) (by omega) h7 h8).mono fun _ _ h => key (by decide) (by simp only [addErr, if_neg hr, if_neg hq, hg]; simp [h8]) h
    by_cases h9 : 65536 ≤ l.length
    · exact (add_full hok hk0 hkr0 hkk hL he hn (by omega) (by omega) (by omega) (by omega) (by omega) (by omega) h7 (by omega) h9).mono fun _ _ h => key (by decide) (by simp only [addErr, if_neg hr, if_neg hq, hg]; simp [h8, h9]) h
    · have ha : addErr n l e = 0 := by simp only [addErr, if_neg hr, if_neg hq, hg]; simp [h8]; omega
      refine (add_ok1 hok hk0 hkr0 hkk hL he hn (by omega) (by omega) (by omega) (by omega) (by omega) (by omega) hlen h7 (by omega) (by omega)).mono fun _ _ h => ?_
      simp only [addNew, ha, if_true]; exact h
end Go.Proofs.Ytcagfdmafelbkaa
