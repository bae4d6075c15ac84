/- Ledger: Strikes, Gone, New; and all methods of a ledger that nobody made. -/
import Derived.Test.YtcagfdmafelbkaaLed6
namespace Go.Proofs.Ytcagfdmafelbkaa
open Go.RowKit Go.Shelf

/-- What Gone answers. -/
def goneL (l : List Entry) (who most : Int) : Int :=
  if 0 < cnt (aboutL l who) 1 then 3 else if 0 < cnt (aboutL l who) 3 then 2 else if 0 < cnt (aboutL l who) 2 ∧ most ≤ cnt (aboutL l who) 2 then 1 else 0

theorem cnt_big (l : List Entry) (who kind : Int) : cnt (aboutL l who) kind ≤ l.length := Nat.le_trans (cnt_le _ _) (List.length_filter_le _ _)

set_option maxRecDepth 100000 in
set_option maxHeartbeats 800000 in
theorem strikes_any {c : Col} {w : World} (hok : Ok c w) {k kr b : Nat} {n : Int} {l : List Entry} (hL : IsLed c k kr w b n l) (hn : 1 ≤ n) (hll : l.length ≤ 1000000000) (who : Int) :
    Calls Try.prog 22 #[.pointer (some ⟨b, 0, none⟩), .int .i64 who] w fun r w' => r = .returned (.int .i64 (cnt (aboutL l who) 2)) ∧ ∃ c', Step No c w c' w' ∧ Ok c' w' := by
  obtain ⟨hcol, hnum, v, hv, hown⟩ := hL
  have z1 := none_no w b n hnum hn
  have z2 := many_any hok hown.sl who 2 hll
  obtain ⟨va, vc, rfl, _⟩ := hown.sl.form
  go_enter Try.func22, Try.ntmps22
  go_wp2_with (first | (go_at_call 55; refine z1.mono ?_; rintro e w' ⟨rfl, rfl⟩) | (go_at_call 60; refine z2.mono ?_; rintro e w' ⟨rfl, hst⟩))
  go_ret
  exact ⟨rfl, hst⟩

set_option maxRecDepth 100000 in
set_option maxHeartbeats 800000 in
theorem gone_any {c : Col} {w : World} (hok : Ok c w) {k kr b : Nat} {n : Int} {l : List Entry} (hL : IsLed c k kr w b n l) (hn : 1 ≤ n) (hll : l.length ≤ 1000000000) (who most : Int) :
    Calls Try.prog 24 #[.pointer (some ⟨b, 0, none⟩), .int .i64 who, .int .i64 most] w fun r w' => r = .returned (.int .i64 (goneL l who most)) ∧ ∃ c', Step No c w c' w' ∧ Ok c' w' := by
  have HL := Lib.hid hL
  obtain ⟨hcol, hnum, v, hv, hown⟩ := hL
  have z1 := none_no w b n hnum hn
  have z2 := strikes_any hok HL.out hn hll who
  obtain ⟨va, vc, rfl, _⟩ := hown.sl.form
  have hb := World.block_lt_of_cell? w _ hv
  have g1 := Lib.hid (cnt_big l who 1)
  have g2 := Lib.hid (cnt_big l who 2)
  have g3 := Lib.hid (cnt_big l who 3)
  go_enter Try.func24, Try.ntmps24
  go_wp2_with (go_at_call 55; refine z1.mono ?_; rintro e w' ⟨rfl, rfl⟩)
  refine z2.mono ?_
  rintro e w1 ⟨rfl, c1, s1, o1⟩
  have hv1 := (s1.cell hb (fun h => h)).trans hv
  have z3 := many_any o1 (hown.sl.kn s1) who 1 hll
  go_wp2_with fail
  refine z3.mono ?_
  rintro e w2 ⟨rfl, c2, s2, o2⟩
  have hv2 := (s2.cell (Nat.lt_of_lt_of_le hb s1.size) (fun h => h)).trans hv1
  have z4 := many_any o2 ((hown.sl.kn s1).kn s2) who 3 hll
  have s12 := s1.trans s2
  by_cases h1 : 0 < cnt (aboutL l who) 1
  · have d1 : decide ((0 : Int) < (cnt (aboutL l who) 1 : Int)) = true := by simpa using h1
    go_wp2_with fail
    go_ret
    exact ⟨by simp [goneL, h1], c2, s12, o2⟩
  · have d1 : decide ((0 : Int) < (cnt (aboutL l who) 1 : Int)) = false := by simpa using h1
    go_wp2_with fail
    refine z4.mono ?_
    rintro e w3 ⟨rfl, c3, s3, o3⟩
    have s13 := s12.trans s3
    by_cases h3 : 0 < cnt (aboutL l who) 3
    · have d3 : decide ((0 : Int) < (cnt (aboutL l who) 3 : Int)) = true := by simpa using h3
      go_wp2_with fail
      go_ret
      exact ⟨by simp [goneL, h1, h3], c3, s13, o3⟩
    · have d3 : decide ((0 : Int) < (cnt (aboutL l who) 3 : Int)) = false := by simpa using h3
      by_cases h2 : 0 < cnt (aboutL l who) 2
      · have d2 : decide ((0 : Int) < (cnt (aboutL l who) 2 : Int)) = true := by simpa using h2
        by_cases hm : most ≤ cnt (aboutL l who) 2
        · have dm : decide (most ≤ (cnt (aboutL l who) 2 : Int)) = true := by simpa using hm
          go_wp2_with fail
          go_ret
          exact ⟨by simp [goneL, h1, h3, h2, hm], c3, s13, o3⟩
        · have dm : decide (most ≤ (cnt (aboutL l who) 2 : Int)) = false := by simpa using hm
          go_wp2_with fail
          go_ret
          exact ⟨by simp [goneL, h1, h3, h2, hm], c3, s13, o3⟩
      · have d2 : decide ((0 : Int) < (cnt (aboutL l who) 2 : Int)) = false := by simpa using h2
        go_wp2_with fail
        go_ret
        exact ⟨by simp [goneL, h1, h3, h2], c3, s13, o3⟩

/-- A ledger that is nil, or that nobody made. -/
def NoLed (w : World) (v : Value) : Prop := v = .pointer none ∨ ∃ b, v = .pointer (some ⟨b, 0, none⟩) ∧ w.cell? ⟨b, 0, none⟩ = some (.int .i64 0)

theorem none_yes {w : World} {v : Value} (h : NoLed w v) : Calls Try.prog 55 #[v] w fun e w' => e = .returned (.bool true) ∧ w = w' := by
  rcases h with rfl | ⟨b, rfl, h⟩
  · exact none_nil w
  · exact none_zero w b h
theorem NoLed.below {w w' : World} {v : Value} (h : NoLed w v) (hb : Below w.heap.size w w') : NoLed w' v := by
  rcases h with rfl | ⟨b, rfl, h⟩
  · exact .inl rfl
  · exact .inr ⟨b, rfl, (hb.cell (p := ⟨b, 0, none⟩) (World.block_lt_of_cell? w _ h)).trans h⟩
theorem NoLed.ptr {w : World} {v : Value} (h : NoLed w v) : ∃ a, v = .pointer a := by
  rcases h with rfl | ⟨b, rfl, _⟩ <;> exact ⟨_, rfl⟩

theorem add_no {w : World} {v : Value} (h : NoLed w v) (e0 e1 e2 e3 e4 : Int) (e5 : Value) (h5 : ∃ a n c, e5 = .slice a n c) :
    Calls Try.prog 14 #[v, .agg #[.int .i64 e0, .int .i64 e1, .int .i64 e2, .int .i64 e3, .int .i64 e4, e5]] w fun e w' => e = .returned (.int .i64 1) ∧ Below w.heap.size w w' := by
  obtain ⟨a, n, cp, rfl⟩ := h5
  have z := none_yes (h.below ((Below.refl _ w).alloc (Nat.le_refl _) (.cells #[.int .i64 e0, .int .i64 e1, .int .i64 e2, .int .i64 e3, .int .i64 e4, .slice a n cp] 34)))
  obtain ⟨ad, rfl⟩ := h.ptr
  clear h
  go_enter Try.func14, Try.ntmps14
  go_wp2_with (go_at_call 55; refine z.mono ?_; rintro e w' ⟨rfl, rfl⟩)
  go_ret
  exact ⟨rfl, (Below.refl _ w).alloc (Nat.le_refl _) _⟩

theorem list_no {w : World} {v : Value} (h : NoLed w v) : Calls Try.prog 18 #[v] w fun e w' => e = .returned (.slice none 0 0) ∧ w = w' := by
  have z := none_yes h
  obtain ⟨ad, rfl⟩ := h.ptr
  clear h
  go_enter Try.func18, Try.ntmps18
  go_wp2_with (go_at_call 55; refine z.mono ?_; rintro e w' ⟨rfl, rfl⟩)
  go_ret
  exact ⟨rfl, rfl⟩

theorem of_no {w : World} {v : Value} (h : NoLed w v) (who : Int) : Calls Try.prog 19 #[v, .int .i64 who] w fun e w' => e = .returned (.slice none 0 0) ∧ Below w.heap.size w w' := by
  have z := none_yes (h.below ((Below.refl _ w).alloc (Nat.le_refl _) (.cells #[.slice none 0 0] 22)))
  obtain ⟨ad, rfl⟩ := h.ptr
  clear h
  go_enter Try.func19, Try.ntmps19
  go_wp2_with (go_at_call 55; refine z.mono ?_; rintro e w' ⟨rfl, rfl⟩)
  exact bodyPost_ret (v := .slice none 0 0) (by simp [results, Try.results19, go_sem]) rfl ⟨rfl, (Below.refl _ w).alloc (Nat.le_refl _) _⟩

theorem strikes_no {w : World} {v : Value} (h : NoLed w v) (who : Int) : Calls Try.prog 22 #[v, .int .i64 who] w fun e w' => e = .returned (.int .i64 0) ∧ w = w' := by
  have z := none_yes h
  obtain ⟨ad, rfl⟩ := h.ptr
  clear h
  go_enter Try.func22, Try.ntmps22
  go_wp2_with (go_at_call 55; refine z.mono ?_; rintro e w' ⟨rfl, rfl⟩)
  go_ret
  exact ⟨rfl, rfl⟩

theorem gone_no {w : World} {v : Value} (h : NoLed w v) (who most : Int) : Calls Try.prog 24 #[v, .int .i64 who, .int .i64 most] w fun e w' => e = .returned (.int .i64 0) ∧ w = w' := by
  have z := none_yes h
  obtain ⟨ad, rfl⟩ := h.ptr
  clear h
  go_enter Try.func24, Try.ntmps24
  go_wp2_with (go_at_call 55; refine z.mono ?_; rintro e w' ⟨rfl, rfl⟩)
  go_ret
  exact ⟨rfl, rfl⟩

theorem new_bad (n : Int) (w : World) (h : n < 1 ∨ 16 < n) : Calls Try.prog 11 #[.int .i64 n] w fun e w' => e = .returned (.tuple #[.pointer none, .int .i64 3]) ∧ w = w' := by
  by_cases h1 : n < 1
  · have d1 : decide (n < 1) = true := by simpa using h1
    go_enter Try.func11, Try.ntmps11
    go_wp2
    go_ret2
    exact ⟨rfl, rfl⟩
  · have d1 : decide (n < 1) = false := by simpa using h1
    have h2 : 16 < n := by omega
    have d2 : decide (16 < n) = true := by simpa using h2
    go_enter Try.func11, Try.ntmps11
    go_wp2
    go_ret2
    exact ⟨rfl, rfl⟩

theorem new_ok {c : Col} {w : World} (hok : Ok c w) (n : Int) (h1 : 1 ≤ n) (h2 : n ≤ 16) (k kr : Nat) : Calls Try.prog 11 #[.int .i64 n] w fun e w' => e = .returned (.tuple #[.pointer (some ⟨w.heap.size, 0, none⟩), .int .i64 0]) ∧
    ∃ c', IsLed c' k kr w' w.heap.size n [] ∧ Step No c w c' w' ∧ Ok c' w' := by
  obtain ⟨a1, a2, a3⟩ := newAt hok [.int .i64 n, .slice none 0 0] 49 k
  have d1 : decide (n < 1) = false := by simpa using h1
  have d2 : decide (16 < n) = false := by simpa using h2
  go_enter Try.func11, Try.ntmps11
  go_wp2
  go_ret2
  exact ⟨rfl, _, ⟨a1.col, a1.c0, _, a1.cells 1 _ rfl, Own.nil _ _ _ _ _ _⟩, a3, a2⟩
end Go.Proofs.Ytcagfdmafelbkaa
