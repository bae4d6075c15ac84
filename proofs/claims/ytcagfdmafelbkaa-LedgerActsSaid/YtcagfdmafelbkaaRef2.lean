/- The reference's ledger: Add, where it takes the entry. -/
import Derived.Test.YtcagfdmafelbkaaRef1
import Derived.Test.YtcagfdmafelbkaaRng
namespace Go.Proofs.Ytcagfdmafelbkaa
open Go.RowKit

theorem ref_mid {c : Col} {w : World} (hok : Ok c w) {W : World} (s1 : Step No c w c W) {x : Nat} (hx : w.heap.size ≤ x) {v0 v1 v2 v3 v4 v5 : Value} (X1 : At c W x 0 [v0, v1, v2, v3, v4, v5]) {q : Nat} (hq0 : q ≠ 0) (hqc : ∀ b, c b ≠ q)
    {c1 : Col} {w1 : World} {v' : Value} {bytes : List UInt8} {e : TypeId} (a1 : Own TByte e c1 q q w1 v' bytes) (a2 : Step No c W c1 w1) (a3 : Ok c1 w1) :
    ∃ c2, Sl TByte c2 0 0 (w1.setCell ⟨x, 5, none⟩ v') v' bytes ∧ Step No c w c2 (w1.setCell ⟨x, 5, none⟩ v') ∧ Ok c2 (w1.setCell ⟨x, 5, none⟩ v') ∧ At c2 (w1.setCell ⟨x, 5, none⟩ v') x 0 [v0, v1, v2, v3, v4, v'] := by
  have X2 := X1.keep a2 (fun h => h)
  have hxq : c1 x ≠ q := by rw [X2.col]; exact fun h => hq0 h.symm
  refine ⟨c1.turn q 0, (a1.sl.set hxq hxq _).turnAll, (((s1.trans a2).ofNo.setCell (a := ⟨x, 5, none⟩) (.inl hx) v').turn (K := One q) rfl).own hqc, (a3.setCell _ _).turn hq0, ?_, ?_, ?_⟩
  · simp only [Col.turn]; rw [if_neg hxq]; exact X2.col
  · rw [size_setCell]; exact X2.lt
  · intro j u hu
    have hj : j < 6 := by have := (List.getElem?_eq_some_iff.1 hu).1; simpa using this
    by_cases e5 : j = 5
    · subst e5
      simp at hu; subst hu
      exact World.cell?_setCell_same' _ _ _ (by rw [show (⟨x, 0 + 5, none⟩ : Addr) = ⟨x, 5, none⟩ from rfl, show w1.cell? ⟨x, 5, none⟩ = some v5 from X2.cells 5 _ rfl]; rfl)
    · rw [World.cell?_setCell_other _ _ _ _ (by intro h; injection h with h1 h2; omega)]
      refine X2.cells j u ?_
      rcases j with _ | _ | _ | _ | _ | _ | j
      · simpa using hu
      · simpa using hu
      · simpa using hu
      · simpa using hu
      · simpa using hu
      · exact absurd rfl e5
      · omega

set_option maxRecDepth 100000 in
set_option maxHeartbeats 800000 in
theorem radd_ok0_1 {c : Col} {w : World} (hok : Ok c w) {k kr b : Nat} (hk0 : k ≠ 0) (hkr0 : kr ≠ 0) (hkk : k ≠ kr) {n : Int} {l : List Entry} (hL : IsLed c k kr w b n l) {kx : Nat} {vs : List Value} {e : Entry} (he : TEntry.rd c kx w vs e) (h1 : 0 ≤ e.who) (h2 : e.who < n) (h3 : 0 ≤ e.now) (h4 : e.now ≤ 1099511627776) (hk : e.kind = 1) (hlen : e.bytes.length ≤ 1000000000) (h7 : l = []) :
    Calls Try.prog 15 #[.pointer (some ⟨b, 0, none⟩), .agg vs.toArray] w fun r w' => r = .returned (.int .i64 0) ∧ ∃ c', IsLed c' k kr w' b n (l ++ [e.kept]) ∧ Step (Two k kr) c w c' w' ∧ Ok c' w' := by
  obtain ⟨now, who, kind, fault, id, bytes⟩ := e
  have he' := he
  obtain ⟨bv, rfl, hb⟩ := he
  dsimp only at *
  obtain ⟨a, cap, rfl, hform⟩ := hb.form
  subst hk
  have hL2 := Lib.hid hL
  obtain ⟨hcol, hnum, v, hv, hown⟩ := hL
  have hblt := World.block_lt_of_cell? w _ hnum
  have hf := hok.soft b 1 (by rw [hcol]; exact hk0)
  obtain ⟨va, vc, rfl, _⟩ := hown.sl.form
  subst h7
  have Y1 : Hid (([] : List Entry).length + [Entry.kept ⟨now, who, 1, fault, id, bytes⟩].length ≤ maxLen) := by show _ ≤ _; simp [maxLen]
  have Y2 : Hid ((([] : List Entry).length + [Entry.kept ⟨now, who, 1, fault, id, bytes⟩].length) * 64 ≤ 140737488355328) := by show _ ≤ _; simp
  simp only [List.length_nil] at hv hown
  have d1 : decide (who < 0) = false := by simpa using h1
  have d2 : decide (n ≤ who) = false := by simpa using h2
  have d3 : decide (now < 0) = false := by simpa using h3
  have d4 : decide (1099511627776 < now) = false := by simpa using h4
  go_enter Try.func15, Try.ntmps15
  go_wp2_with fail
  go_quiet (fail)
  go_wp2_with fail
  go_quiet (fail)
  go_wp2_with fail
  have hkp : Entry.kept ⟨now, who, 1, fault, id, bytes⟩ = ⟨now, who, 1, fault, 0, bytes⟩ := by simp [Entry.kept]
  obtain ⟨q, hq, hqc⟩ := hok.spare 0
  have hq0 : q ≠ 0 := by omega
  have s1 : ∀ m, Step No c w c (((w.alloc (.cells #[.int .i64 now, .int .i64 who, .int .i64 1, .int .i64 fault, .int .i64 id, .slice a bytes.length cap] 34)).drewN m).alloc (.cells #[.int .i64 now, .int .i64 who, .int .i64 1, .int .i64 fault, .int .i64 0, .slice none 0 0] 34)) := fun m => ((Step.refl.alloc _).drewN m).alloc _
  have o1 : ∀ m, Ok c (((w.alloc (.cells #[.int .i64 now, .int .i64 who, .int .i64 1, .int .i64 fault, .int .i64 id, .slice a bytes.length cap] 34)).drewN m).alloc (.cells #[.int .i64 now, .int .i64 who, .int .i64 1, .int .i64 fault, .int .i64 0, .slice none 0 0] 34)) := fun m => ((hok.alloc _).drewN m).alloc _
  have x1 : ∀ m, At c (((w.alloc (.cells #[.int .i64 now, .int .i64 who, .int .i64 1, .int .i64 fault, .int .i64 id, .slice a bytes.length cap] 34)).drewN m).alloc (.cells #[.int .i64 now, .int .i64 who, .int .i64 1, .int .i64 fault, .int .i64 0, .slice none 0 0] 34)) (w.heap.size + 1) 0 [.int .i64 now, .int .i64 who, .int .i64 1, .int .i64 fault, .int .i64 0, .slice none 0 0] := fun m => by
    have := At.new0 ((hok.alloc (.cells #[.int .i64 now, .int .i64 who, .int .i64 1, .int .i64 fault, .int .i64 id, .slice a bytes.length cap] 34)).drewN m) [.int .i64 now, .int .i64 who, .int .i64 1, .int .i64 fault, .int .i64 0, .slice none 0 0] 34
    have hz : ((w.alloc (.cells #[.int .i64 now, .int .i64 who, .int .i64 1, .int .i64 fault, .int .i64 id, .slice a bytes.length cap] 34)).drewN m).heap.size = w.heap.size + 1 := by simp
    rwa [hz] at this
  refine (copyBytes_any (o1 _) q q (hb.kn (s1 _)) hlen).mono ?_
  rintro r w1 ⟨v', c1, rfl, a1, a2, a3⟩
  obtain ⟨c2, b1, b2, b3, b4⟩ := ref_mid hok (s1 _) (Nat.le_succ _) (x1 _) hq0 hqc a1 a2 a3
  obtain ⟨f1, f2⟩ := a2.facts
  obtain ⟨av, cv, rfl, _⟩ := a1.sl.form
  clear s1 o1 x1
  go_wp2_with fail
  obtain ⟨W2, hW2⟩ : ∃ W2, w1.setCell ⟨w.heap.size + 1, 5, none⟩ (.slice av bytes.length cv) = W2 := ⟨_, rfl⟩
  rw [hW2] at b1 b2 b3 b4 ⊢
  clear hW2 a1 a2 a3 f1 f2
  obtain ⟨X1, X2, X3, X4, X5, X6, X7, X8⟩ := led_put hok hk0 hkr0 hkk hcol hv hown b2.drew b3.drew (e := ⟨now, who, 1, fault, 0, bytes⟩) (b1.kn Step.rf.drew)
  have y := b4.keep (Step.rf (w := W2)).drew (fun h => h)
  have y0 : W2.drew.cell? ⟨w.heap.size + 1, 0, none⟩ = some (.int .i64 now) := y.cells 0 _ rfl
  have y1 : W2.drew.cell? ⟨w.heap.size + 1, 1, none⟩ = some (.int .i64 who) := y.cells 1 _ rfl
  have y2 : W2.drew.cell? ⟨w.heap.size + 1, 2, none⟩ = some (.int .i64 1) := y.cells 2 _ rfl
  have y3 : W2.drew.cell? ⟨w.heap.size + 1, 3, none⟩ = some (.int .i64 fault) := y.cells 3 _ rfl
  have y4 : W2.drew.cell? ⟨w.heap.size + 1, 4, none⟩ = some (.int .i64 0) := y.cells 4 _ rfl
  have y5 : W2.drew.cell? ⟨w.heap.size + 1, 5, none⟩ = some (.slice av bytes.length cv) := y.cells 5 _ rfl
  clear y
  have X6' : (W2.alloc (.cells #[.int .i64 now, .int .i64 who, .int .i64 1, .int .i64 fault, .int .i64 0, .slice av bytes.length cv] 34)).cell? ⟨b, 1, none⟩ = some _ := X6
  have X8' : W2.cell? ⟨b, 1, none⟩ = some _ := X8
  go_region_law (first | (refine step_app TEntry X1 rfl _ _ 22 rfl 34 Try.underlying22 infoEntry rfl (by decide) rfl rfl X2 X3 (Ne.symm hkr0) Y1.out Y2.out ?_; intro v' w' c' d1 d2 d3 _; obtain ⟨va', vc', rfl, _⟩ := d1.sl.form; have e1 := (d2.cell (b := b) (o := 1) X4 X5).trans X6; have e2 := (d2.frozen (b := b) (o := 1) X4 X5).trans X7))
  all_goals go_wp2_with fail
  all_goals go_ret
  all_goals exact ⟨rfl, led_done hk0 hkr0 hkk hL2.out (b2.drew.alloc _) d2 d3 (by simpa [hkp] using d1)⟩

set_option maxRecDepth 100000 in
set_option maxHeartbeats 800000 in
theorem radd_ok0_2 {c : Col} {w : World} (hok : Ok c w) {k kr b : Nat} (hk0 : k ≠ 0) (hkr0 : kr ≠ 0) (hkk : k ≠ kr) {n : Int} {l : List Entry} (hL : IsLed c k kr w b n l) {kx : Nat} {vs : List Value} {e : Entry} (he : TEntry.rd c kx w vs e) (h1 : 0 ≤ e.who) (h2 : e.who < n) (h3 : 0 ≤ e.now) (h4 : e.now ≤ 1099511627776) (hk : e.kind = 2) (hlen : e.bytes.length ≤ 1000000000) (h7 : l = []) :
    Calls Try.prog 15 #[.pointer (some ⟨b, 0, none⟩), .agg vs.toArray] w fun r w' => r = .returned (.int .i64 0) ∧ ∃ c', IsLed c' k kr w' b n (l ++ [e.kept]) ∧ Step (Two k kr) c w c' w' ∧ Ok c' w' := by
  obtain ⟨now, who, kind, fault, id, bytes⟩ := e
  have he' := he
  obtain ⟨bv, rfl, hb⟩ := he
  dsimp only at *
  obtain ⟨a, cap, rfl, hform⟩ := hb.form
  subst hk
  have hL2 := Lib.hid hL
  obtain ⟨hcol, hnum, v, hv, hown⟩ := hL
  have hblt := World.block_lt_of_cell? w _ hnum
  have hf := hok.soft b 1 (by rw [hcol]; exact hk0)
  obtain ⟨va, vc, rfl, _⟩ := hown.sl.form
  subst h7
  have Y1 : Hid (([] : List Entry).length + [Entry.kept ⟨now, who, 2, fault, id, bytes⟩].length ≤ maxLen) := by show _ ≤ _; simp [maxLen]
  have Y2 : Hid ((([] : List Entry).length + [Entry.kept ⟨now, who, 2, fault, id, bytes⟩].length) * 64 ≤ 140737488355328) := by show _ ≤ _; simp
  simp only [List.length_nil] at hv hown
  have d1 : decide (who < 0) = false := by simpa using h1
  have d2 : decide (n ≤ who) = false := by simpa using h2
  have d3 : decide (now < 0) = false := by simpa using h3
  have d4 : decide (1099511627776 < now) = false := by simpa using h4
  go_enter Try.func15, Try.ntmps15
  go_wp2_with fail
  go_quiet (fail)
  revert nq
  intro n1
  go_wp2_with fail
  go_quiet (fail)
  revert nq
  intro n2
  go_wp2_with fail
  have hkp : Entry.kept ⟨now, who, 2, fault, id, bytes⟩ = ⟨now, who, 2, 0, id, []⟩ := by simp [Entry.kept]
  have b2 : Step No c w c (((w.alloc (.cells #[.int .i64 now, .int .i64 who, .int .i64 2, .int .i64 fault, .int .i64 id, .slice a bytes.length cap] 34)).drewN (n1 + n2)).alloc (.cells #[.int .i64 now, .int .i64 who, .int .i64 2, .int .i64 0, .int .i64 id, .slice none 0 0] 34)) := ((Step.refl.alloc _).drewN _).alloc _
  have b3 : Ok c (((w.alloc (.cells #[.int .i64 now, .int .i64 who, .int .i64 2, .int .i64 fault, .int .i64 id, .slice a bytes.length cap] 34)).drewN (n1 + n2)).alloc (.cells #[.int .i64 now, .int .i64 who, .int .i64 2, .int .i64 0, .int .i64 id, .slice none 0 0] 34)) := ((hok.alloc _).drewN _).alloc _
  have b4 : At c (((w.alloc (.cells #[.int .i64 now, .int .i64 who, .int .i64 2, .int .i64 fault, .int .i64 id, .slice a bytes.length cap] 34)).drewN (n1 + n2)).alloc (.cells #[.int .i64 now, .int .i64 who, .int .i64 2, .int .i64 0, .int .i64 id, .slice none 0 0] 34)) (w.heap.size + 1) 0 [.int .i64 now, .int .i64 who, .int .i64 2, .int .i64 0, .int .i64 id, .slice none 0 0] := by
    have := At.new0 ((hok.alloc (.cells #[.int .i64 now, .int .i64 who, .int .i64 2, .int .i64 fault, .int .i64 id, .slice a bytes.length cap] 34)).drewN (n1 + n2)) [.int .i64 now, .int .i64 who, .int .i64 2, .int .i64 0, .int .i64 id, .slice none 0 0] 34
    have hz : ((w.alloc (.cells #[.int .i64 now, .int .i64 who, .int .i64 2, .int .i64 fault, .int .i64 id, .slice a bytes.length cap] 34)).drewN (n1 + n2)).heap.size = w.heap.size + 1 := by simp
    rwa [hz] at this
  have b1 : Sl TByte c 0 0 (((w.alloc (.cells #[.int .i64 now, .int .i64 who, .int .i64 2, .int .i64 fault, .int .i64 id, .slice a bytes.length cap] 34)).drewN (n1 + n2)).alloc (.cells #[.int .i64 now, .int .i64 who, .int .i64 2, .int .i64 0, .int .i64 id, .slice none 0 0] 34)) (.slice none 0 0) [] := Sl.nil _ _ _ _ _
  obtain ⟨W2, hW2⟩ : ∃ W2, ((w.alloc (.cells #[.int .i64 now, .int .i64 who, .int .i64 2, .int .i64 fault, .int .i64 id, .slice a bytes.length cap] 34)).drewN (n1 + n2)).alloc (.cells #[.int .i64 now, .int .i64 who, .int .i64 2, .int .i64 0, .int .i64 id, .slice none 0 0] 34) = W2 := ⟨_, rfl⟩
  rw [hW2] at b1 b2 b3 b4 ⊢
  clear hW2
  obtain ⟨X1, X2, X3, X4, X5, X6, X7, X8⟩ := led_put hok hk0 hkr0 hkk hcol hv hown b2.drew b3.drew (e := ⟨now, who, 2, 0, id, []⟩) (b1.kn Step.rf.drew)
  have y := b4.keep (Step.rf (w := W2)).drew (fun h => h)
  have y0 : W2.drew.cell? ⟨w.heap.size + 1, 0, none⟩ = some (.int .i64 now) := y.cells 0 _ rfl
  have y1 : W2.drew.cell? ⟨w.heap.size + 1, 1, none⟩ = some (.int .i64 who) := y.cells 1 _ rfl
  have y2 : W2.drew.cell? ⟨w.heap.size + 1, 2, none⟩ = some (.int .i64 2) := y.cells 2 _ rfl
  have y3 : W2.drew.cell? ⟨w.heap.size + 1, 3, none⟩ = some (.int .i64 0) := y.cells 3 _ rfl
  have y4 : W2.drew.cell? ⟨w.heap.size + 1, 4, none⟩ = some (.int .i64 id) := y.cells 4 _ rfl
  have y5 : W2.drew.cell? ⟨w.heap.size + 1, 5, none⟩ = some (.slice none 0 0) := y.cells 5 _ rfl
  clear y
  have X6' : (W2.alloc (.cells #[.int .i64 now, .int .i64 who, .int .i64 2, .int .i64 0, .int .i64 id, .slice none 0 0] 34)).cell? ⟨b, 1, none⟩ = some _ := X6
  have X8' : W2.cell? ⟨b, 1, none⟩ = some _ := X8
  go_region_law (first | (refine step_app TEntry X1 rfl _ _ 22 rfl 34 Try.underlying22 infoEntry rfl (by decide) rfl rfl X2 X3 (Ne.symm hkr0) Y1.out Y2.out ?_; intro v' w' c' d1 d2 d3 _; obtain ⟨va', vc', rfl, _⟩ := d1.sl.form; have e1 := (d2.cell (b := b) (o := 1) X4 X5).trans X6; have e2 := (d2.frozen (b := b) (o := 1) X4 X5).trans X7))
  all_goals go_wp2_with fail
  all_goals go_ret
  all_goals exact ⟨rfl, led_done hk0 hkr0 hkk hL2.out (b2.drew.alloc _) d2 d3 (by simpa [hkp] using d1)⟩

set_option maxRecDepth 100000 in
set_option maxHeartbeats 800000 in
theorem radd_ok0_3 {c : Col} {w : World} (hok : Ok c w) {k kr b : Nat} (hk0 : k ≠ 0) (hkr0 : kr ≠ 0) (hkk : k ≠ kr) {n : Int} {l : List Entry} (hL : IsLed c k kr w b n l) {kx : Nat} {vs : List Value} {e : Entry} (he : TEntry.rd c kx w vs e) (h1 : 0 ≤ e.who) (h2 : e.who < n) (h3 : 0 ≤ e.now) (h4 : e.now ≤ 1099511627776) (hk : e.kind = 3) (hlen : e.bytes.length ≤ 1000000000) (h7 : l = []) :
    Calls Try.prog 15 #[.pointer (some ⟨b, 0, none⟩), .agg vs.toArray] w fun r w' => r = .returned (.int .i64 0) ∧ ∃ c', IsLed c' k kr w' b n (l ++ [e.kept]) ∧ Step (Two k kr) c w c' w' ∧ Ok c' w' := by
  obtain ⟨now, who, kind, fault, id, bytes⟩ := e
  have he' := he
  obtain ⟨bv, rfl, hb⟩ := he
  dsimp only at *
  obtain ⟨a, cap, rfl, hform⟩ := hb.form
  subst hk
  have hL2 := Lib.hid hL
  obtain ⟨hcol, hnum, v, hv, hown⟩ := hL
  have hblt := World.block_lt_of_cell? w _ hnum
  have hf := hok.soft b 1 (by rw [hcol]; exact hk0)
  obtain ⟨va, vc, rfl, _⟩ := hown.sl.form
  subst h7
  have Y1 : Hid (([] : List Entry).length + [Entry.kept ⟨now, who, 3, fault, id, bytes⟩].length ≤ maxLen) := by show _ ≤ _; simp [maxLen]
  have Y2 : Hid ((([] : List Entry).length + [Entry.kept ⟨now, who, 3, fault, id, bytes⟩].length) * 64 ≤ 140737488355328) := by show _ ≤ _; simp
  simp only [List.length_nil] at hv hown
  have d1 : decide (who < 0) = false := by simpa using h1
  have d2 : decide (n ≤ who) = false := by simpa using h2
  have d3 : decide (now < 0) = false := by simpa using h3
  have d4 : decide (1099511627776 < now) = false := by simpa using h4
  go_enter Try.func15, Try.ntmps15
  go_wp2_with fail
  go_quiet (fail)
  go_wp2_with fail
  go_quiet (fail)
  go_wp2_with fail
  have hkp : Entry.kept ⟨now, who, 3, fault, id, bytes⟩ = ⟨now, who, 3, 0, 0, bytes⟩ := by simp [Entry.kept]
  obtain ⟨q, hq, hqc⟩ := hok.spare 0
  have hq0 : q ≠ 0 := by omega
  have s1 : ∀ m, Step No c w c (((w.alloc (.cells #[.int .i64 now, .int .i64 who, .int .i64 3, .int .i64 fault, .int .i64 id, .slice a bytes.length cap] 34)).drewN m).alloc (.cells #[.int .i64 now, .int .i64 who, .int .i64 3, .int .i64 0, .int .i64 0, .slice none 0 0] 34)) := fun m => ((Step.refl.alloc _).drewN m).alloc _
  have o1 : ∀ m, Ok c (((w.alloc (.cells #[.int .i64 now, .int .i64 who, .int .i64 3, .int .i64 fault, .int .i64 id, .slice a bytes.length cap] 34)).drewN m).alloc (.cells #[.int .i64 now, .int .i64 who, .int .i64 3, .int .i64 0, .int .i64 0, .slice none 0 0] 34)) := fun m => ((hok.alloc _).drewN m).alloc _
  have x1 : ∀ m, At c (((w.alloc (.cells #[.int .i64 now, .int .i64 who, .int .i64 3, .int .i64 fault, .int .i64 id, .slice a bytes.length cap] 34)).drewN m).alloc (.cells #[.int .i64 now, .int .i64 who, .int .i64 3, .int .i64 0, .int .i64 0, .slice none 0 0] 34)) (w.heap.size + 1) 0 [.int .i64 now, .int .i64 who, .int .i64 3, .int .i64 0, .int .i64 0, .slice none 0 0] := fun m => by
    have := At.new0 ((hok.alloc (.cells #[.int .i64 now, .int .i64 who, .int .i64 3, .int .i64 fault, .int .i64 id, .slice a bytes.length cap] 34)).drewN m) [.int .i64 now, .int .i64 who, .int .i64 3, .int .i64 0, .int .i64 0, .slice none 0 0] 34
    have hz : ((w.alloc (.cells #[.int .i64 now, .int .i64 who, .int .i64 3, .int .i64 fault, .int .i64 id, .slice a bytes.length cap] 34)).drewN m).heap.size = w.heap.size + 1 := by simp
    rwa [hz] at this
  refine (copyBytes_any (o1 _) q q (hb.kn (s1 _)) hlen).mono ?_
  rintro r w1 ⟨v', c1, rfl, a1, a2, a3⟩
  obtain ⟨c2, b1, b2, b3, b4⟩ := ref_mid hok (s1 _) (Nat.le_succ _) (x1 _) hq0 hqc a1 a2 a3
  obtain ⟨f1, f2⟩ := a2.facts
  obtain ⟨av, cv, rfl, _⟩ := a1.sl.form
  clear s1 o1 x1
  go_wp2_with fail
  obtain ⟨W2, hW2⟩ : ∃ W2, w1.setCell ⟨w.heap.size + 1, 5, none⟩ (.slice av bytes.length cv) = W2 := ⟨_, rfl⟩
  rw [hW2] at b1 b2 b3 b4 ⊢
  clear hW2 a1 a2 a3 f1 f2
  obtain ⟨X1, X2, X3, X4, X5, X6, X7, X8⟩ := led_put hok hk0 hkr0 hkk hcol hv hown b2.drew b3.drew (e := ⟨now, who, 3, 0, 0, bytes⟩) (b1.kn Step.rf.drew)
  have y := b4.keep (Step.rf (w := W2)).drew (fun h => h)
  have y0 : W2.drew.cell? ⟨w.heap.size + 1, 0, none⟩ = some (.int .i64 now) := y.cells 0 _ rfl
  have y1 : W2.drew.cell? ⟨w.heap.size + 1, 1, none⟩ = some (.int .i64 who) := y.cells 1 _ rfl
  have y2 : W2.drew.cell? ⟨w.heap.size + 1, 2, none⟩ = some (.int .i64 3) := y.cells 2 _ rfl
  have y3 : W2.drew.cell? ⟨w.heap.size + 1, 3, none⟩ = some (.int .i64 0) := y.cells 3 _ rfl
  have y4 : W2.drew.cell? ⟨w.heap.size + 1, 4, none⟩ = some (.int .i64 0) := y.cells 4 _ rfl
  have y5 : W2.drew.cell? ⟨w.heap.size + 1, 5, none⟩ = some (.slice av bytes.length cv) := y.cells 5 _ rfl
  clear y
  have X6' : (W2.alloc (.cells #[.int .i64 now, .int .i64 who, .int .i64 3, .int .i64 0, .int .i64 0, .slice av bytes.length cv] 34)).cell? ⟨b, 1, none⟩ = some _ := X6
  have X8' : W2.cell? ⟨b, 1, none⟩ = some _ := X8
  go_region_law (first | (refine step_app TEntry X1 rfl _ _ 22 rfl 34 Try.underlying22 infoEntry rfl (by decide) rfl rfl X2 X3 (Ne.symm hkr0) Y1.out Y2.out ?_; intro v' w' c' d1 d2 d3 _; obtain ⟨va', vc', rfl, _⟩ := d1.sl.form; have e1 := (d2.cell (b := b) (o := 1) X4 X5).trans X6; have e2 := (d2.frozen (b := b) (o := 1) X4 X5).trans X7))
  all_goals go_wp2_with fail
  all_goals go_ret
  all_goals exact ⟨rfl, led_done hk0 hkr0 hkk hL2.out (b2.drew.alloc _) d2 d3 (by simpa [hkp] using d1)⟩

end Go.Proofs.Ytcagfdmafelbkaa
