/- Ledger: the chapter's examples (awake); LongEntries. -/
import Derived.Test.YtcagfdmafelbkaaLed8
namespace Go.Proofs.Ytcagfdmafelbkaa
open Go.RowKit Go.Shelf

theorem strike_any (now who id : Int) (w : World) : Calls Try.prog 76 #[.int .i64 now, .int .i64 who, .int .i64 id] w fun e w' =>
    e = .returned (.agg #[.int .i64 now, .int .i64 who, .int .i64 2, .int .i64 0, .int .i64 id, .slice none 0 0]) ∧ Below w.heap.size w w' := by
  go_enter Try.func76, Try.ntmps76
  go_wp2
  exact bodyPost_ret (v := .agg #[.int .i64 now, .int .i64 who, .int .i64 2, .int .i64 0, .int .i64 id, .slice none 0 0]) (by simp [results, Try.results76, go_sem]) rfl ⟨rfl, (Below.refl _ w).alloc (Nat.le_refl _) _⟩

/-- An entry without bytes. -/
theorem bare_rd (c : Col) (k : Nat) (w : World) (now who kind fault id : Int) : TEntry.rd c k w [.int .i64 now, .int .i64 who, .int .i64 kind, .int .i64 fault, .int .i64 id, .slice none 0 0] ⟨now, who, kind, fault, id, []⟩ := ⟨_, rfl, Sl.nil _ _ _ _ _⟩

def firstL : List Entry := [⟨13, 0, 2, 0, 1, []⟩, ⟨19, 0, 2, 0, 2, []⟩]

set_option maxRecDepth 100000 in
set_option maxHeartbeats 1600000 in
theorem first_any {c : Col} {w : World} (hok : Ok c w) {k kr : Nat} (hk0 : k ≠ 0) (hkr0 : kr ≠ 0) (hkk : k ≠ kr) (hkc : ∀ b, c b ≠ k) (hkrc : ∀ b, c b ≠ kr) :
    Calls Try.prog 54 #[] w fun r w' => ∃ b, r = .returned (.pointer (some ⟨b, 0, none⟩)) ∧ ∃ c', IsLed c' k kr w' b 2 firstL ∧ Step No c w c' w' ∧ Ok c' w' := by
  have n1 := new_ok hok 2 (by decide) (by decide) k kr
  go_enter Try.func54, Try.ntmps54
  go_wp2_with fail
  refine n1.mono ?_
  rintro e w1 ⟨rfl, c1, i1, s1, o1⟩
  go_wp2_with fail
  refine (strike_any _ _ _ _).mono ?_
  rintro e w2 ⟨rfl, bl⟩
  have i2 := i1.keep (Step.ofBelow (K := No) bl) (fun h => h) (fun h => h) (fun h => h)
  have o2 := o1.ofBelow bl
  have s2 := s1.trans (Step.ofBelow (K := No) bl)
  have A1 := add_any o2 hk0 hkr0 hkk i2 (bare_rd c1 0 w2 13 0 2 0 1) (by decide) (by decide)
  clear i1 o1 s1 n1 bl
  go_wp2_with fail
  refine A1.mono ?_
  clear A1
  rintro e w3 ⟨rfl, c3, i3, s3, o3⟩
  rw [show addErr 2 [] ⟨13, 0, 2, 0, 1, []⟩ = 0 from by decide]
  rw [show addNew 2 [] ⟨13, 0, 2, 0, 1, []⟩ = [⟨13, 0, 2, 0, 1, []⟩] from rfl] at i3
  have t3 := s2.ofNo.trans s3
  clear i2 o2 s2 s3
  go_wp2_with fail
  refine (strike_any _ _ _ _).mono ?_
  rintro e w4 ⟨rfl, bl⟩
  have i4 := i3.keep (Step.ofBelow (K := No) bl) (fun h => h) (fun h => h) (fun h => h)
  have o4 := o3.ofBelow bl
  have t4 := t3.trans (Step.ofBelow bl)
  have A1 := add_any o4 hk0 hkr0 hkk i4 (bare_rd c3 0 w4 19 0 2 0 2) (by decide) (by decide)
  clear i3 o3 t3 bl
  go_wp2_with fail
  refine A1.mono ?_
  clear A1
  rintro e w5 ⟨rfl, c5, i5, s5, o5⟩
  rw [show addErr 2 [⟨13, 0, 2, 0, 1, []⟩] ⟨19, 0, 2, 0, 2, []⟩ = 0 from by decide]
  rw [show addNew 2 [⟨13, 0, 2, 0, 1, []⟩] ⟨19, 0, 2, 0, 2, []⟩ = firstL from rfl] at i5
  have t5 := t4.trans s5
  clear i4 o4 t4 s5
  go_wp2_with fail
  refine (strike_any _ _ _ _).mono ?_
  rintro e w6 ⟨rfl, bl⟩
  have i6 := i5.keep (Step.ofBelow (K := No) bl) (fun h => h) (fun h => h) (fun h => h)
  have o6 := o5.ofBelow bl
  have t6 := t5.trans (Step.ofBelow bl)
  have A1 := add_any o6 hk0 hkr0 hkk i6 (bare_rd c5 0 w6 12 1 2 0 1) (by decide) (by decide)
  clear i5 o5 t5 bl
  go_wp2_with fail
  refine A1.mono ?_
  clear A1
  rintro e w7 ⟨rfl, c7, i7, s7, o7⟩
  rw [show addErr 2 firstL ⟨12, 1, 2, 0, 1, []⟩ = 9 from by decide]
  rw [show addNew 2 firstL ⟨12, 1, 2, 0, 1, []⟩ = firstL from rfl] at i7
  have t7 := t6.trans s7
  clear i6 o6 t6 s7
  go_wp2_with fail
  refine (strike_any _ _ _ _).mono ?_
  rintro e w8 ⟨rfl, bl⟩
  have i8 := i7.keep (Step.ofBelow (K := No) bl) (fun h => h) (fun h => h) (fun h => h)
  have o8 := o7.ofBelow bl
  have t8 := t7.trans (Step.ofBelow bl)
  have A1 := add_any o8 hk0 hkr0 hkk i8 (bare_rd c7 0 w8 19 2 2 0 1) (by decide) (by decide)
  clear i7 o7 t7 bl
  go_wp2_with fail
  refine A1.mono ?_
  clear A1
  rintro e w9 ⟨rfl, c9, i9, s9, o9⟩
  rw [show addErr 2 firstL ⟨19, 2, 2, 0, 1, []⟩ = 3 from by decide]
  rw [show addNew 2 firstL ⟨19, 2, 2, 0, 1, []⟩ = firstL from rfl] at i9
  have t9 := t8.trans s9
  clear i8 o8 t8 s9
  have A1 := add_any o9 hk0 hkr0 hkk i9 (bare_rd c9 0 w9 19 0 4 0 0) (by decide) (by decide)
  go_wp2_with fail
  refine A1.mono ?_
  clear A1
  rintro e w11 ⟨rfl, c11, i11, s11, o11⟩
  rw [show addErr 2 firstL ⟨19, 0, 4, 0, 0, []⟩ = 5 from by decide]
  rw [show addNew 2 firstL ⟨19, 0, 4, 0, 0, []⟩ = firstL from rfl] at i11
  have t11 := (t9.trans s11).own2 hkc hkrc
  clear i9 o9 t9 s11
  go_wp2_with fail
  go_ret
  exact ⟨_, rfl, c11, i11, t11, o11⟩
end Go.Proofs.Ytcagfdmafelbkaa
