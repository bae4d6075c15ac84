/- The law PivotActs: its walk. -/
import Derived.Test.YtcagfdmafelbkaaPivC
import Derived.Test.YtcagfdmafelbkaaPiv6
import Derived.Test.YtcagfdmafelbkaaPiv8
import Derived.Test.YtcagfdmafelbkaaPivA
namespace Go.Proofs.Ytcagfdmafelbkaa
open Go.RowKit

theorem done_any {c : Col} {w : World} {k kr b : Nat} {s : Stk} (h : IsSt c k kr w b s) (hr : 1 ≤ s.root) {d : Bool} (hd : ((s.l.length : Int) == 0) = d) :
    Calls Try.prog 44 #[.pointer (some ⟨b, 0, none⟩)] w fun r w' => r = .returned (.bool d) ∧ w = w' := by
  by_cases hl : s.l = []
  · have : d = true := by rw [← hd, hl]; rfl
    subst this
    exact done_yes h hr hl
  · have hp : 0 < s.l.length := List.length_pos_iff.2 hl
    have : d = false := by rw [← hd]; simp; omega
    subst this
    exact done_no h hr hl

/-- What the loop keeps. -/
structure InvS (m : Nat) (b b' : Nat) (w0 : World) (j : Nat) (c : Col) (w : World) : Prop where
  le : j ≤ m + 1
  step : Step (fun j => j ≠ 0) (fun _ => 0) w0 c w
  ok : Ok c w
  st : ∃ s, IsSt c 1 2 w b s ∧ IsSt c 3 4 w b' s ∧ Good s ∧ s.l.length ≤ 1 + j

private theorem n5 {a : Nat} (h1 : a ≠ 5) : ¬ One 5 a := h1

set_option maxRecDepth 100000 in
set_option maxHeartbeats 1600000 in
theorem stack_law {w : World} {v : Value} {l : List Pair} (h : Sl TPair (fun _ => 0) 0 0 w v l) (r t : Int) (hr : IntKind.i64.has r) (ht : IntKind.i64.has t) :
    Calls Try.prog 6 #[.int .i64 r, .int .i64 t, v] w fun r w' => r = .returned (.bool true) ∧ Below w.heap.size w w' := by
  have hok : Ok (fun _ => 0) w := Ok.zero w
  have bel : ∀ {K : Nat → Prop} {c' : Col} {w' : World}, Step K (fun _ => 0) w c' w' → ¬ K 0 → Below w.heap.size w w' := fun h k0 => h.below (fun _ _ => k0)
  have hm := h.length_le
  unfold maxLen at hm
  have h' := Lib.hid h
  obtain ⟨va, vc, rfl, _⟩ := h.form
  have AW := awake23_any hok
  by_cases hlong : 60 < l.length
  · clear h hr ht
    go_enter Try.func6, Try.ntmps6
    go_wp2_with fail
    with_reducible refine AW.mono ?_
    rintro e w2 ⟨rfl, c2, s2, _⟩
    go_wp2_with fail
    go_ret
    exact ⟨rfl, bel s2 (fun h => h)⟩
  by_cases hno : (¬ (isH r ∧ isH t)) ∨ (isH r ∧ isH t ∧ t ≤ r)
  · obtain ⟨e, N1, N2⟩ : ∃ e, Calls Try.prog 38 #[.int .i64 r, .int .i64 t] w (fun x w' => x = .returned (.tuple #[.pointer none, .int .i64 e]) ∧ w = w') ∧ Calls Try.prog 39 #[.int .i64 r, .int .i64 t] w (fun x w' => x = .returned (.tuple #[.pointer none, .int .i64 e]) ∧ w = w') := by
      rcases hno with hno | ⟨ha, hb, hle⟩
      · exact ⟨3, new_range r t w hno, rnewst_range r t w hno⟩
      · exact ⟨13, new_height r t w ha hb hle, rnewst_height r t w ha hb hle⟩
    clear h hr ht hno
    go_enter Try.func6, Try.ntmps6
    go_wp2_with fail
    with_reducible refine N1.mono ?_
    rintro e w1 ⟨rfl, rfl⟩
    go_wp2_with fail
    with_reducible refine N2.mono ?_
    rintro e w1 ⟨rfl, rfl⟩
    go_wp2_with fail
    refine wp_loop_once ?_
    go_wp2_with fail
    with_reducible refine AW.mono ?_
    rintro e w2 ⟨rfl, c2, s2, _⟩
    go_wp2_with fail
    go_ret
    exact ⟨rfl, bel s2 (fun h => h)⟩
  obtain ⟨ha, hb, hlt⟩ : isH r ∧ isH t ∧ r < t := by
    by_cases h1 : isH r
    · by_cases h2 : isH t
      · exact ⟨h1, h2, by by_cases h3 : t ≤ r; exact absurd (.inr ⟨h1, h2, h3⟩) hno; omega⟩
      · exact absurd (.inl fun h => h2 h.2) hno
    · exact absurd (.inl fun h => h1 h.1) hno
  have G0 : Good (newS r t) := ⟨ha, hb, hlt, ha, by intro x hx; simp [newS] at hx; subst hx; exact ⟨hlt, hb.2⟩, by simp [newS]⟩
  have N1 := newst_ok hok r t ha hb hlt 1 2
  have N2 := fun (c1 : Col) (w1 : World) (o1 : Ok c1 w1) => rnewst_ok o1 r t ha hb hlt 3 4
  clear h AW hno ha hb hlt hr ht
  go_enter Try.func6, Try.ntmps6
  go_wp2_with fail
  with_reducible refine N1.mono ?_
  rintro e w1 ⟨rfl, c1, i1, s1, o1⟩
  have N3 := N2 _ _ o1
  clear N2
  go_wp2_with fail
  refine N3.mono ?_
  rintro e w2 ⟨b', rfl, c2, i2, s2, o2, -⟩
  have I0 : InvS l.length w.heap.size b' w 0 c2 w2 := ⟨by omega, (s1.trans s2).ofNo, o2, _, i1.kn s2, i2, G0, by simp [newS]⟩
  clear i1 i2 s1 s2 o1 o2 N1 N3 G0
  go_wp2_with fail
  go_loopw [11, 12] (fun i hh wr => ∃ (j : Nat) (cr : Col), i = .int .i64 j ∧ InvS l.length w.heap.size b' w j cr wr) (fun i _ _ => l.length + 1 - (intOf i).toNat)
  case atStart => exact ⟨0, c2, rfl, I0⟩
  case round =>
    obtain ⟨j, cr, rfl, I⟩ := hrel
    have hj := I.le
    by_cases hle : j ≤ l.length
    · obtain ⟨s, i1, i2, g, hn⟩ := I.st
      have hsl : s.l.length ≤ 1000000000 := by omega
      have hr1 : 1 ≤ s.root := g.root.1
      have P1 := heights_any I.ok i1 hr1 hsl 5
      have HH := Lib.hid (And.intro I (And.intro i1 (And.intro i2 (And.intro g (And.intro hn (And.intro hsl hr1))))))
      clear i1 i2 g hn I hsl hr1
      have hj' : (j : Int) ≤ (l.length : Int) := by omega
      go_wp2_with fail
      refine P1.mono ?_
      rintro e w5 ⟨v5, c5, rfl, a5, s5, o5⟩
      obtain ⟨va5, vc5, rfl, _⟩ := a5.sl.form
      obtain ⟨I, i1, i2, g, hn, hsl, hr1⟩ := HH.out
      have i1' := i1.kn s5
      have i2' := i2.kn s5
      obtain ⟨d, z1⟩ : ∃ d, ((s.l.length : Int) == 0) = d := ⟨_, rfl⟩
      obtain ⟨vr, hvr, hor⟩ := i2'.row
      obtain ⟨ra, rc, rfl, _⟩ := hor.sl.form
      have h0 := i2'.c0
      have GG := Lib.hid (And.intro i1' (And.intro i2' (And.intro a5 (And.intro hor (And.intro o5 (And.intro s5 hr1))))))
      have HS : ∀ W : World, (∀ a, W.cell? a = w5.cell? a) → (fun W => W.cell? ⟨b', 0, none⟩ = some (.int .i64 s.low) ∧ W.cell? ⟨b', 3, none⟩ = some (.slice ra s.l.length rc)) W := fun W hW => ⟨(hW _).trans h0, (hW _).trans hvr⟩
      clear i1' i2' a5 hor o5 s5 I i1 i2 g hn hsl hr1 P1 hvr h0
      go_wp2_with fail
      have K1 := HS w5.drew (fun _ => rfl)
      refine region_planM (fun W => W.cell? ⟨b', 0, none⟩ = some (.int .i64 s.low) ∧ W.cell? ⟨b', 3, none⟩ = some (.slice ra s.l.length rc)) (fun _ => true) (by kernel_rfl) ?_
      refine wpAnyM.takeT (i := 0) (v := _) (some 51) rfl rfl (by kernel_rfl) (by kernel_rfl) (by kernel_rfl) (by kernel_rfl) (by kernel_rfl) (fun _ _ _ h => h) (Or.inl ⟨by rfl, fun W hW => by first | (obtain ⟨q0, q1⟩ := hW; go_simp <;> rfl) | (obtain ⟨q0, q1⟩ := hW; go_simp; done)⟩) K1 ?_
      (try simp only [Act.put, List.setIfInBounds_toArray, List.set_cons_zero, List.set_cons_succ])
      refine wpAnyM.takeT (i := 2) (v := _) (some 53) rfl rfl (by kernel_rfl) (by kernel_rfl) (by kernel_rfl) (by kernel_rfl) (by kernel_rfl) (fun _ _ _ h => h) (Or.inl ⟨by rfl, fun W hW => by first | (obtain ⟨q0, q1⟩ := hW; go_simp <;> rfl) | (obtain ⟨q0, q1⟩ := hW; go_simp; done)⟩) K1 ?_
      (try simp only [Act.put, List.setIfInBounds_toArray, List.set_cons_zero, List.set_cons_succ])
      refine wpAnyM.takeT (i := 3) (v := _) (some 54) rfl rfl (by kernel_rfl) (by kernel_rfl) (by kernel_rfl) (by kernel_rfl) (by kernel_rfl) (fun _ _ _ h => h) (Or.inl ⟨by rfl, fun W hW => by first | (obtain ⟨q0, q1⟩ := hW; go_simp <;> rfl) | (obtain ⟨q0, q1⟩ := hW; go_simp; done)⟩) K1 ?_
      (try simp only [Act.put, List.setIfInBounds_toArray, List.set_cons_zero, List.set_cons_succ])
      refine wpAnyM.takeT (i := 4) (v := _) (some 55) rfl rfl (by kernel_rfl) (by kernel_rfl) (by kernel_rfl) (by kernel_rfl) (by kernel_rfl) (fun _ _ _ h => h) (Or.inl ⟨by rfl, fun W hW => by first | (obtain ⟨q0, q1⟩ := hW; go_simp <;> rfl) | (obtain ⟨q0, q1⟩ := hW; go_simp; done)⟩) K1 ?_
      (try simp only [Act.put, List.setIfInBounds_toArray, List.set_cons_zero, List.set_cons_succ])
      refine wpAnyM.takeT (i := 5) (v := _) (some 56) rfl rfl (by kernel_rfl) (by kernel_rfl) (by kernel_rfl) (by kernel_rfl) (by kernel_rfl) (fun _ _ _ h => h) (Or.inl ⟨by rfl, fun W hW => by first | (obtain ⟨q0, q1⟩ := hW; go_simp <;> rfl) | (obtain ⟨q0, q1⟩ := hW; go_simp; done)⟩) K1 ?_
      (try simp only [Act.put, List.setIfInBounds_toArray, List.set_cons_zero, List.set_cons_succ])
      refine wpAnyM.one (i := 1) (by kernel_rfl) rfl (fun KQ hK => ?_)
      go_simp
      refine (base_any (GG.out.1.kn Step.rf.drew) GG.out.2.2.2.2.2.2).mono ?_
      rintro e w6 ⟨rfl, rfl⟩
      refine hK.out _ _ (fun _ => K1) ?_
      clear hK KQ
      (try simp only [Act.put, List.setIfInBounds_toArray, List.set_cons_zero, List.set_cons_succ])
      refine wpAnyM.takeT (i := 6) (v := _) (some 57) rfl rfl (by kernel_rfl) (by kernel_rfl) (by kernel_rfl) (by kernel_rfl) (by kernel_rfl) (fun _ _ _ h => h) (Or.inl ⟨by rfl, fun W hW => by first | (obtain ⟨q0, q1⟩ := hW; go_simp <;> rfl) | (obtain ⟨q0, q1⟩ := hW; go_simp; done)⟩) K1 ?_
      (try simp only [Act.put, List.setIfInBounds_toArray, List.set_cons_zero, List.set_cons_succ])
      refine wpAnyM.takeT (i := 7) (v := _) (some 58) rfl rfl (by kernel_rfl) (by kernel_rfl) (by kernel_rfl) (by kernel_rfl) (by kernel_rfl) (fun _ _ _ h => h) (Or.inl ⟨by rfl, fun W hW => by first | (obtain ⟨q0, q1⟩ := hW; go_simp <;> rfl) | (obtain ⟨q0, q1⟩ := hW; go_simp; done)⟩) K1 ?_
      (try simp only [Act.put, List.setIfInBounds_toArray, List.set_cons_zero, List.set_cons_succ])
      refine wpAnyM.takeT (i := 8) (v := _) (some 59) rfl rfl (by kernel_rfl) (by kernel_rfl) (by kernel_rfl) (by kernel_rfl) (by kernel_rfl) (fun _ _ _ h => h) (Or.inl ⟨by rfl, fun W hW => by first | (obtain ⟨q0, q1⟩ := hW; go_simp <;> rfl) | (obtain ⟨q0, q1⟩ := hW; go_simp; done)⟩) K1 ?_
      (try simp only [Act.put, List.setIfInBounds_toArray, List.set_cons_zero, List.set_cons_succ])
      refine wpAnyM.takeT (i := 10) (v := _) (some 61) rfl rfl (by kernel_rfl) (by kernel_rfl) (by kernel_rfl) (by kernel_rfl) (by kernel_rfl) (fun _ _ _ h => h) (Or.inl ⟨by rfl, fun W hW => by first | (obtain ⟨q0, q1⟩ := hW; go_simp <;> rfl) | (obtain ⟨q0, q1⟩ := hW; go_simp; done)⟩) K1 ?_
      (try simp only [Act.put, List.setIfInBounds_toArray, List.set_cons_zero, List.set_cons_succ])
      refine wpAnyM.one (i := 9) (by kernel_rfl) rfl (fun KQ hK => ?_)
      go_simp
      refine (sttop_any (GG.out.1.kn Step.rf.drew) GG.out.2.2.2.2.2.2).mono ?_
      rintro e w6 ⟨rfl, n1, rfl⟩
      have K2 := HS (w5.drew.drewN n1) (fun _ => rfl)
      refine hK.out _ _ (fun _ => K2) ?_
      clear hK KQ
      (try simp only [Act.put, List.setIfInBounds_toArray, List.set_cons_zero, List.set_cons_succ])
      refine wpAnyM.one (i := 11) (by kernel_rfl) rfl (fun KQ hK => ?_)
      go_simp
      refine (rtop_any (GG.out.2.1.kn (Step.rf.drewN (1 + n1)))).mono ?_
      rintro e w6 ⟨rfl, n2, rfl⟩
      have K3 := HS ((w5.drewN (1 + n1)).drewN n2) (fun _ => rfl)
      refine hK.out _ _ (fun _ => K3) ?_
      clear hK KQ
      (try simp only [Act.put, List.setIfInBounds_toArray, List.set_cons_zero, List.set_cons_succ])
      refine wpAnyM.takeT (i := 12) (v := _) (some 63) rfl rfl (by kernel_rfl) (by kernel_rfl) (by kernel_rfl) (by kernel_rfl) (by kernel_rfl) (fun _ _ _ h => h) (Or.inl ⟨by rfl, fun W hW => by first | (obtain ⟨q0, q1⟩ := hW; go_simp <;> rfl) | (obtain ⟨q0, q1⟩ := hW; go_simp; done)⟩) K3 ?_
      (try simp only [Act.put, List.setIfInBounds_toArray, List.set_cons_zero, List.set_cons_succ])
      refine wpAnyM.takeT (i := 13) (v := _) (some 64) rfl rfl (by kernel_rfl) (by kernel_rfl) (by kernel_rfl) (by kernel_rfl) (by kernel_rfl) (fun _ _ _ h => h) (Or.inl ⟨by rfl, fun W hW => by first | (obtain ⟨q0, q1⟩ := hW; go_simp <;> rfl) | (obtain ⟨q0, q1⟩ := hW; go_simp; done)⟩) K3 ?_
      (try simp only [Act.put, List.setIfInBounds_toArray, List.set_cons_zero, List.set_cons_succ])
      refine wpAnyM.takeT (i := 14) (v := _) (some 65) rfl rfl (by kernel_rfl) (by kernel_rfl) (by kernel_rfl) (by kernel_rfl) (by kernel_rfl) (fun _ _ _ h => h) (Or.inl ⟨by rfl, fun W hW => by first | (obtain ⟨q0, q1⟩ := hW; go_simp <;> rfl) | (obtain ⟨q0, q1⟩ := hW; go_simp; done)⟩) K3 ?_
      (try simp only [Act.put, List.setIfInBounds_toArray, List.set_cons_zero, List.set_cons_succ])
      refine wpAnyM.takeT (i := 15) (v := _) (some 66) rfl rfl (by kernel_rfl) (by kernel_rfl) (by kernel_rfl) (by kernel_rfl) (by kernel_rfl) (fun _ _ _ h => h) (Or.inl ⟨by rfl, fun W hW => by first | (obtain ⟨q0, q1⟩ := hW; go_simp <;> rfl) | (obtain ⟨q0, q1⟩ := hW; go_simp; done)⟩) K3 ?_
      (try simp only [Act.put, List.setIfInBounds_toArray, List.set_cons_zero, List.set_cons_succ])
      refine wpAnyM.takeT (i := 16) (v := _) (some 67) rfl rfl (by kernel_rfl) (by kernel_rfl) (by kernel_rfl) (by kernel_rfl) (by kernel_rfl) (fun _ _ _ h => h) (Or.inl ⟨by rfl, fun W hW => by first | (obtain ⟨q0, q1⟩ := hW; go_simp <;> rfl) | (obtain ⟨q0, q1⟩ := hW; go_simp; done)⟩) K3 ?_
      (try simp only [Act.put, List.setIfInBounds_toArray, List.set_cons_zero, List.set_cons_succ])
      refine wpAnyM.takeT (i := 17) (v := _) (some 68) rfl rfl (by kernel_rfl) (by kernel_rfl) (by kernel_rfl) (by kernel_rfl) (by kernel_rfl) (fun _ _ _ h => h) (Or.inl ⟨by rfl, fun W hW => by first | (obtain ⟨q0, q1⟩ := hW; go_simp <;> rfl) | (obtain ⟨q0, q1⟩ := hW; go_simp; done)⟩) K3 ?_
      (try simp only [Act.put, List.setIfInBounds_toArray, List.set_cons_zero, List.set_cons_succ])
      refine wpAnyM.takeT (i := 18) (v := _) (some 69) rfl rfl (by kernel_rfl) (by kernel_rfl) (by kernel_rfl) (by kernel_rfl) (by kernel_rfl) (fun _ _ _ h => h) (Or.inl ⟨by rfl, fun W hW => by first | (obtain ⟨q0, q1⟩ := hW; go_simp <;> rfl) | (obtain ⟨q0, q1⟩ := hW; go_simp; done)⟩) K3 ?_
      (try simp only [Act.put, List.setIfInBounds_toArray, List.set_cons_zero, List.set_cons_succ])
      refine wpAnyM.takeT (i := 19) (v := _) (some 70) rfl rfl (by kernel_rfl) (by kernel_rfl) (by kernel_rfl) (by kernel_rfl) (by kernel_rfl) (fun _ _ _ h => h) (Or.inl ⟨by rfl, fun W hW => by first | (obtain ⟨q0, q1⟩ := hW; go_simp <;> rfl) | (obtain ⟨q0, q1⟩ := hW; go_simp; done)⟩) K3 ?_
      (try simp only [Act.put, List.setIfInBounds_toArray, List.set_cons_zero, List.set_cons_succ])
      refine wpAnyM.one (i := 20) (by kernel_rfl) rfl (fun KQ hK => ?_)
      go_simp
      refine (sameInts_eq (GG.out.2.2.1.sl.kn (Step.rf.drewN (1 + n1 + n2))) (GG.out.2.2.2.1.sl.kn (Step.rf.drewN (1 + n1 + n2)))).mono ?_
      rintro e w6 ⟨rfl, n3, rfl⟩
      have K4 := HS ((w5.drewN (1 + n1 + n2)).drewN n3) (fun _ => rfl)
      refine hK.out _ _ (fun _ => K4) ?_
      clear hK KQ
      (try simp only [Act.put, List.setIfInBounds_toArray, List.set_cons_zero, List.set_cons_succ])
      refine wpAnyM.takeT (i := 21) (v := _) (some 72) rfl rfl (by kernel_rfl) (by kernel_rfl) (by kernel_rfl) (by kernel_rfl) (by kernel_rfl) (fun _ _ _ h => h) (Or.inl ⟨by rfl, fun W hW => by first | (obtain ⟨q0, q1⟩ := hW; go_simp <;> rfl) | (obtain ⟨q0, q1⟩ := hW; go_simp; done)⟩) K4 ?_
      (try simp only [Act.put, List.setIfInBounds_toArray, List.set_cons_zero, List.set_cons_succ])
      refine wpAnyM.takeT (i := 22) (v := _) (some 73) rfl rfl (by kernel_rfl) (by kernel_rfl) (by kernel_rfl) (by kernel_rfl) (by kernel_rfl) (fun _ _ _ h => h) (Or.inl ⟨by rfl, fun W hW => by first | (obtain ⟨q0, q1⟩ := hW; go_simp <;> rfl) | (obtain ⟨q0, q1⟩ := hW; go_simp; done)⟩) K4 ?_
      (try simp only [Act.put, List.setIfInBounds_toArray, List.set_cons_zero, List.set_cons_succ])
      refine wpAnyM.takeT (i := 23) (v := _) (some 74) rfl rfl (by kernel_rfl) (by kernel_rfl) (by kernel_rfl) (by kernel_rfl) (by kernel_rfl) (fun _ _ _ h => h) (Or.inl ⟨by rfl, fun W hW => by first | (obtain ⟨q0, q1⟩ := hW; go_simp <;> rfl) | (obtain ⟨q0, q1⟩ := hW; go_simp; done)⟩) K4 ?_
      (try simp only [Act.put, List.setIfInBounds_toArray, List.set_cons_zero, List.set_cons_succ])
      refine wpAnyM.takeT (i := 24) (v := _) (some 75) rfl rfl (by kernel_rfl) (by kernel_rfl) (by kernel_rfl) (by kernel_rfl) (by kernel_rfl) (fun _ _ _ h => h) (Or.inl ⟨by rfl, fun W hW => by first | (obtain ⟨q0, q1⟩ := hW; go_simp <;> rfl) | (obtain ⟨q0, q1⟩ := hW; go_simp; done)⟩) K4 ?_
      (try simp only [Act.put, List.setIfInBounds_toArray, List.set_cons_zero, List.set_cons_succ])
      refine wpAnyM.takeT (i := 26) (v := _) (some 77) rfl rfl (by kernel_rfl) (by kernel_rfl) (by kernel_rfl) (by kernel_rfl) (by kernel_rfl) (fun _ _ _ h => h) (Or.inl ⟨by rfl, fun W hW => by first | (obtain ⟨q0, q1⟩ := hW; go_simp <;> rfl) | (obtain ⟨q0, q1⟩ := hW; go_simp; done)⟩) K4 ?_
      (try simp only [Act.put, List.setIfInBounds_toArray, List.set_cons_zero, List.set_cons_succ])
      refine wpAnyM.takeT (i := 27) (v := _) (some 78) rfl rfl (by kernel_rfl) (by kernel_rfl) (by kernel_rfl) (by kernel_rfl) (by kernel_rfl) (fun _ _ _ h => h) (Or.inl ⟨by rfl, fun W hW => by first | (obtain ⟨q0, q1⟩ := hW; go_simp <;> rfl) | (obtain ⟨q0, q1⟩ := hW; go_simp; done)⟩) K4 ?_
      (try simp only [Act.put, List.setIfInBounds_toArray, List.set_cons_zero, List.set_cons_succ])
      refine wpAnyM.takeT (i := 28) (v := _) (some 79) rfl rfl (by kernel_rfl) (by kernel_rfl) (by kernel_rfl) (by kernel_rfl) (by kernel_rfl) (fun _ _ _ h => h) (Or.inl ⟨by rfl, fun W hW => by first | (obtain ⟨q0, q1⟩ := hW; go_simp <;> rfl) | (obtain ⟨q0, q1⟩ := hW; go_simp; done)⟩) K4 ?_
      (try simp only [Act.put, List.setIfInBounds_toArray, List.set_cons_zero, List.set_cons_succ])
      refine wpAnyM.takeT (i := 29) (v := _) (some 80) rfl rfl (by kernel_rfl) (by kernel_rfl) (by kernel_rfl) (by kernel_rfl) (by kernel_rfl) (fun _ _ _ h => h) (Or.inl ⟨by rfl, fun W hW => by first | (obtain ⟨q0, q1⟩ := hW; go_simp <;> rfl) | (obtain ⟨q0, q1⟩ := hW; go_simp; done)⟩) K4 ?_
      (try simp only [Act.put, List.setIfInBounds_toArray, List.set_cons_zero, List.set_cons_succ])
      refine wpAnyM.takeT (i := 30) (v := _) (some 81) rfl rfl (by kernel_rfl) (by kernel_rfl) (by kernel_rfl) (by kernel_rfl) (by kernel_rfl) (fun _ _ _ h => h) (Or.inl ⟨by rfl, fun W hW => by first | (obtain ⟨q0, q1⟩ := hW; go_simp <;> rfl) | (obtain ⟨q0, q1⟩ := hW; go_simp; done)⟩) K4 ?_
      (try simp only [Act.put, List.setIfInBounds_toArray, List.set_cons_zero, List.set_cons_succ])
      refine wpAnyM.takeT (i := 31) (v := _) (some 82) rfl rfl (by kernel_rfl) (by kernel_rfl) (by kernel_rfl) (by kernel_rfl) (by kernel_rfl) (fun _ _ _ h => h) (Or.inl ⟨by rfl, fun W hW => by first | (obtain ⟨q0, q1⟩ := hW; go_simp <;> rfl) | (obtain ⟨q0, q1⟩ := hW; go_simp; done)⟩) K4 ?_
      (try simp only [Act.put, List.setIfInBounds_toArray, List.set_cons_zero, List.set_cons_succ])
      refine wpAnyM.one (i := 25) (by kernel_rfl) rfl (fun KQ hK => ?_)
      go_simp
      refine (done_any (GG.out.1.kn (Step.rf.drewN (1 + n1 + n2 + n3))) GG.out.2.2.2.2.2.2 z1).mono ?_
      rintro e w6 ⟨rfl, rfl⟩
      refine hK.out _ _ (fun _ => K4) ?_
      clear hK KQ
      (try simp only [Act.put, List.setIfInBounds_toArray, List.set_cons_zero, List.set_cons_succ])
      refine wpAnyM.takeT (i := 32) (v := _) (some 83) rfl rfl (by kernel_rfl) (by kernel_rfl) (by kernel_rfl) (by kernel_rfl) (by kernel_rfl) (fun _ _ _ h => h) (Or.inl ⟨by rfl, fun W hW => by first | (obtain ⟨q0, q1⟩ := hW; go_simp <;> rfl) | (obtain ⟨q0, q1⟩ := hW; go_simp; done)⟩) K4 ?_
      (try simp only [Act.put, List.setIfInBounds_toArray, List.set_cons_zero, List.set_cons_succ])
      refine wpAnyM.takeT (i := 33) (v := _) (some 84) rfl rfl (by kernel_rfl) (by kernel_rfl) (by kernel_rfl) (by kernel_rfl) (by kernel_rfl) (fun _ _ _ h => h) (Or.inl ⟨by rfl, fun W hW => by first | (obtain ⟨q0, q1⟩ := hW; go_simp <;> rfl) | (obtain ⟨q0, q1⟩ := hW; go_simp; done)⟩) K4 ?_
      (try simp only [Act.put, List.setIfInBounds_toArray, List.set_cons_zero, List.set_cons_succ])
      refine wpAnyM.done (by kernel_rfl) ?_ _
      clear K1 K2 K3 K4 HS z1
      have s6 := (Step.rf (c := c5) (w := w5)).drewN (1 + n1 + n2 + n3)
      have o6 := GG.out.2.2.2.2.1.drewN (1 + n1 + n2 + n3)
      have P2 := overInts_any o6 (by decide) (by decide) (GG.out.2.2.1.sl.kn s6)
      obtain ⟨W6, hW6⟩ : ∃ W6, w5.drewN (1 + n1 + n2 + n3) = W6 := ⟨_, rfl⟩
      rw [hW6] at s6 o6 P2
      rw [hW6]
      clear hW6
      go_wp2_with fail
      refine P2.mono ?_
      rintro e w7 ⟨rfl, s7, o7⟩
      obtain ⟨i1', i2', -, -, -, s5, hr1⟩ := GG.out
      obtain ⟨I, -, -, g, hn, hsl, -⟩ := HH.out
      have j1 := (i1'.kn s6).keep s7 (n5 (by decide)) (n5 (by decide)) (n5 (by decide))
      have j2 := (i2'.kn s6).keep s7 (n5 (by decide)) (n5 (by decide)) (n5 (by decide))
      have t7 : Step (fun j => j ≠ 0) (fun _ => 0) w c5 w7 := (I.step.trans (s5.trans s6).ofNo).trans (s7.mono fun j h => by cases h; decide)
      clear P2 i1' i2' s5 s6 s7 o6 I
      by_cases hlt : j < l.length
      · obtain ⟨x, hx⟩ : ∃ x, l[j]? = some x := ⟨l[j], by simp [hlt]⟩
        have h7 := h'.out.keep t7 (by simp) (by simp)
        obtain ⟨g0, off, cap, hva, _⟩ := h7.ex (by omega)
        cases hva
        obtain ⟨y0, y1, -, q2⟩ := pair_at h7 hx
        have P3 := acts_any o7 j1 j2 g hsl x.1 x.2 q2
        have FF := Lib.hid (And.intro t7 hn)
        have hj0 : (0 : Int) ≤ (j : Int) := by omega
        have hj1 : (j : Int) < (l.length : Int) := by omega
        clear h7 hx q2 j1 j2 o7 t7 g hsl hr1 hn
        go_wp2_with fail
        refine P3.mono ?_
        rintro e w8 ⟨rfl, c8, I8⟩
        have I9 : InvS l.length w.heap.size b' w (j + 1) c8 w8 := ⟨by omega, FF.out.1.trans I8.step, I8.ok, by
          obtain ⟨s', u1, u2, u3, u4⟩ := I8.st
          have := FF.out.2
          exact ⟨s', u1, u2, u3, by omega⟩⟩
        have I9' := Lib.hid I9
        clear P3 FF I8 I9 y0 y1
        go_wp2_with fail
        go_roundw
        case rel => exact ⟨j + 1, c8, by go_num, I9'.out⟩
        case measure => simp [intOf]; omega
      · have I9 : InvS l.length w.heap.size b' w (j + 1) c5 w7 := ⟨by omega, t7, o7, s, j1, j2, g, by omega⟩
        have I9' := Lib.hid I9
        have hj1 : ¬ (j : Int) < (l.length : Int) := by omega
        clear I9 j1 j2 o7 t7 g hsl hr1 hn
        go_wp2_with fail
        go_roundw
        case rel => exact ⟨j + 1, c5, by go_num, I9'.out⟩
        case measure => simp [intOf]; omega
    · have AW := awake23_any I.ok
      have T7 := I.step
      have hj1 : ¬ (j : Int) ≤ (l.length : Int) := by omega
      clear I
      go_wp2_with fail
      with_reducible refine AW.mono ?_
      rintro e w7 ⟨rfl, c7, s7, _⟩
      go_wp2_with fail
      go_ret
      exact ⟨rfl, bel (T7.trans s7.ofNo) (by simp)⟩
end Go.Proofs.Ytcagfdmafelbkaa
