/- Pivot: the reference's Plan. -/
import Derived.Test.YtcagfdmafelbkaaPivR3
import Derived.Test.YtcagfdmafelbkaaPiv10
namespace Go.Proofs.Ytcagfdmafelbkaa
open Go.RowKit

section
variable {c : Col} {w : World}

theorem rplan_range (hok : Ok c w) (r t : Int) (v : Value) (h : ¬ (isH r ∧ isH t)) :
    Calls Try.prog 29 #[.int .i64 r, .int .i64 t, v] w fun e w' => e = .returned (.tuple #[.slice none 0 0, .slice none 0 0, .bool false, .int .i64 3]) ∧ Step No c w c w' ∧ Ok c w' := by
  have N1 := rnewst_range r t w h
  clear h
  go_enter Try.func29, Try.ntmps29
  go_wp2_with fail
  with_reducible refine N1.mono ?_
  rintro e w1 ⟨rfl, rfl⟩
  go_wp2
  exact bodyPost_ret (v := .tuple #[.slice none 0 0, .slice none 0 0, .bool false, .int .i64 3]) (by simp [results, Try.results29, go_sem]) rfl ⟨rfl, Step.refl, hok⟩

theorem rplan_height (hok : Ok c w) (r t : Int) (v : Value) (ha : isH r) (hb : isH t) (h : t ≤ r) :
    Calls Try.prog 29 #[.int .i64 r, .int .i64 t, v] w fun e w' => e = .returned (.tuple #[.slice none 0 0, .slice none 0 0, .bool false, .int .i64 13]) ∧ Step No c w c w' ∧ Ok c w' := by
  have N1 := rnewst_height r t w ha hb h
  clear h ha hb
  go_enter Try.func29, Try.ntmps29
  go_wp2_with fail
  with_reducible refine N1.mono ?_
  rintro e w1 ⟨rfl, rfl⟩
  go_wp2
  exact bodyPost_ret (v := .tuple #[.slice none 0 0, .slice none 0 0, .bool false, .int .i64 13]) (by simp [results, Try.results29, go_sem]) rfl ⟨rfl, Step.refl, hok⟩

theorem rplan_far (hok : Ok c w) (r t : Int) (v : Value) (ha : isH r) (hb : isH t) (h : r < t) (hf : 4096 < t - r) :
    Calls Try.prog 29 #[.int .i64 r, .int .i64 t, v] w fun e w' => e = .returned (.tuple #[.slice none 0 0, .slice none 0 0, .bool false, .int .i64 4]) ∧ ∃ c', Step No c w c' w' ∧ Ok c' w' := by
  have N1 := rnewst_ok hok r t ha hb h 1 2
  have z1 := ha.1
  have z2 := ha.2
  have z3 := hb.1
  have z4 := hb.2
  clear ha hb
  go_enter Try.func29, Try.ntmps29
  go_wp2_with fail
  with_reducible refine N1.mono ?_
  rintro e w1 ⟨b, rfl, c1, i1, s1, o1, _⟩
  go_wp2
  exact bodyPost_ret (v := .tuple #[.slice none 0 0, .slice none 0 0, .bool false, .int .i64 4]) (by simp [results, Try.results29, go_sem]) rfl ⟨rfl, c1, s1, o1⟩

theorem out2R {c c' : Col} {w w' : World} {q q2 ks kr ka kb : Nat} {va vb : Value} {l : List Tri} {m : List Int} {K : Nat → Prop} (oa : Own TTri 91 c' q 0 w' va l) (ob : Own (TInt .i64) 3 c' q2 0 w' vb m) (sr : Step K c w c' w') (ok : Ok c' w')
    (hqc : ∀ b, c b ≠ q) (hqc2 : ∀ b, c b ≠ q2) (hksc : ∀ b, c b ≠ ks) (hkrc : ∀ b, c b ≠ kr) (h0 : q ≠ 0) (h02 : q2 ≠ 0) (hqq : q2 ≠ q) (hkq : ka ≠ q2) (hK : ∀ j, K j ↔ j = q ∨ j = q2 ∨ j = ks ∨ j = kr := by exact fun _ => Iff.rfl) :
    ∃ c'', Sl TTri c'' ka 0 w' va l ∧ Sl (TInt .i64) c'' kb 0 w' vb m ∧ Step No c w c'' w' ∧ Ok c'' w' := by
  refine ⟨(c'.turn q ka).turn q2 kb, ((oa.turn (k := ka) (fun e => h0 e.symm)).keep ((Step.refl (K := One q2)).turn rfl) hkq (fun e => h02 e.symm)).sl, ((ob.keep ((Step.refl (K := One q)).turn (q := q) (k := ka) rfl) hqq (fun e => h0 e.symm)).turn (k := kb) (fun e => h02 e.symm)).sl, ?_, (ok.turn h0).turn h02⟩
  refine ((sr.turn (q := q) (k := ka) ((hK q).2 (.inl rfl))).turn (q := q2) (k := kb) ((hK q2).2 (.inr (.inl rfl)))).drop fun b _ h => ?_
  rcases (hK _).1 h with h | h | h | h
  · exact hqc b h
  · exact hqc2 b h
  · exact hksc b h
  · exact hkrc b h

def K4 (a b c d : Nat) : Nat → Prop := fun j => j = a ∨ j = b ∨ j = c ∨ j = d

set_option maxRecDepth 100000 in
set_option maxHeartbeats 1600000 in
theorem rplan_main (hok : Ok c w) (r t : Int) {kx kx2 : Nat} {v : Value} {hs : List Pair} (hv : Sl TPair c kx kx2 w v hs) (ha : isH r) (hb : isH t) (h : r < t) (hf : t - r ≤ 4096) (ka kb : Nat) :
    Calls Try.prog 29 #[.int .i64 r, .int .i64 t, v] w fun e w' => ∃ va vb, e = .returned (.tuple #[va, vb, .bool (plan hs (newS r t)).2.2, .int .i64 0]) ∧
      ∃ c', Sl TTri c' ka 0 w' va (plan hs (newS r t)).1 ∧ Sl (TInt .i64) c' kb 0 w' vb (t :: (plan hs (newS r t)).2.1) ∧ Step No c w c' w' ∧ Ok c' w' := by
  obtain ⟨q, hq, hqc⟩ := hok.spare (ka + kb)
  obtain ⟨q2, hq2, hqc2⟩ := hok.spare q
  obtain ⟨ks, hks, hksc⟩ := hok.spare q2
  obtain ⟨kr, hkr, hkrc⟩ := hok.spare ks
  have N1 := rnewst_ok hok r t ha hb h ks kr
  have f0 := newS_fine ha hb h
  have z1 := ha.1
  have z2 := ha.2
  have z3 := hb.1
  have z4 := hb.2
  have z5 : decide (4096 < t - r) = false := by simp; omega
  have hhas := hb.has
  obtain ⟨kx', hv', hkx⟩ := (show Sl TPair c kx 0 w v hs from hv).colour
  have hkx2 : ∀ k, 0 < k → (∀ b, c b ≠ k) → kx' ≠ k := fun k h0 hc e => by
    rcases hkx with h | ⟨b, hb⟩
    · omega
    · exact hc b (hb.trans e)
  obtain ⟨va0, vc0, rfl, _⟩ := hv'.form
  have HV := Lib.hid (And.intro hv' (And.intro (hkx2 q (by omega) hqc) (And.intro (hkx2 q2 (by omega) hqc2) (And.intro (hkx2 ks (by omega) hksc) (hkx2 kr (by omega) hkrc)))))
  clear ha hb hv hv' hkx hkx2
  go_enter Try.func29, Try.ntmps29
  go_wp2_with fail
  with_reducible refine N1.mono ?_
  rintro e w1 ⟨b, rfl, c1, i1, s1, o1, hbw⟩
  obtain ⟨n1, n2, n3⟩ := Own.new (TInt .i64) 3 o1 q2 0 [[.int .i64 t]] [t] rfl (by simp [maxLen]) (fun i x hi => by
    have h0 : i = 0 := by have := (List.getElem?_eq_some_iff.1 hi).1; simp at this; omega
    subst h0; simp at hi; subst hi; exact ⟨_, rfl, rfl, hhas⟩) (by simp [TInt])
  simp only [List.flatten_cons, List.flatten_nil, List.append_nil, List.length_cons, List.length_nil, Nat.zero_add] at n1 n2 n3
  have i2 := i1.kn n3
  have S2 := s1.trans n3
  clear N1 i1 s1 o1 n3
  go_wp2_with fail
  obtain ⟨c2, hc2⟩ : ∃ c2, c1.put w1.heap.size q2 = c2 := ⟨_, rfl⟩
  obtain ⟨W1, hW1⟩ : ∃ W1, w1.alloc (.cells #[.int .i64 t] 3) = W1 := ⟨_, rfl⟩
  rw [hc2, hW1] at n1 n2 i2 S2
  rw [hW1]
  have H := Lib.hid (And.intro n1 (And.intro n2 (And.intro i2 S2)))
  clear n1 n2 i2 S2 hc2 hW1 hhas
  go_loopw [12, 13] (fun va vb wr => ∃ (s : Stk) (pre : List Tri) (asked : List Int) (cr : Col), planI hs r t pre asked s ∧ IsSt cr ks kr wr b s ∧ Own TTri 91 cr q 0 wr va pre ∧ Own (TInt .i64) 3 cr q2 0 wr vb (t :: asked) ∧ Step (K4 q q2 ks kr) c w cr wr ∧ Ok cr wr) (fun _ _ wr => muW b wr)
  case atStart =>
    obtain ⟨n1, n2, i2, S2⟩ := H.out
    exact ⟨newS r t, [], [], c2, planI.start f0 hf, i2, Own.nil _ _ _ _ _ _, n1, S2.ofNo, n2⟩
  case round =>
    obtain ⟨s, pre, asked, cr, h1, i1, oa, ob, sr, ok⟩ := hrel
    obtain ⟨xa, xc, rfl, _⟩ := oa.sl.form
    obtain ⟨ya, yc, hy, _⟩ := ob.sl.form
    rw [List.length_cons] at hy
    subst hy
    obtain ⟨vs, hvs, hos⟩ := i1.row
    obtain ⟨za, zc, rfl, _⟩ := hos.sl.form
    by_cases hl : s.l = []
    · have hdone := h1.done hl
      have X := Lib.hid (And.intro hdone (And.intro oa (And.intro ob (And.intro sr ok))))
      rw [hl] at hvs
      simp only [List.length_nil] at hvs
      clear h1 i1 oa ob sr ok hdone hl hos
      go_wp2
      obtain ⟨hdone, oa, ob, sr, ok⟩ := X.out
      obtain ⟨c', x1, x2, x3, x4⟩ := out2R (ka := ka) (kb := kb) oa ob sr ok hqc hqc2 hksc hkrc (by omega) (by omega) (by omega) (by omega)
      exact bodyPost_ret (v := .tuple #[.slice xa pre.length xc, .slice ya (asked.length + 1) yc, .bool true, .int .i64 0]) (by simp [results, Try.results29, go_sem]) rfl ⟨_, _, by rw [hdone], c', by rw [hdone]; exact x1, by rw [hdone]; exact x2, x3, x4⟩
    · obtain ⟨hd, hhd⟩ : ∃ hd, (tri hs s).held = hd := ⟨_, rfl⟩
      have hhd' : decide ((s.low, topL s.l) ∈ hs) = hd := hhd
      have hp : 0 < s.l.length := List.length_pos_iff.2 hl
      have y2 : decide ((0 : Int) < (s.l.length : Int)) = true := by simp; omega
      have hvr : Sl TPair cr kx' 0 wr (.slice va0 hs.length vc0) hs := HV.out.1.keep sr (by have := HV.out.2; unfold K4; omega) (by unfold K4; omega)
      have T1 : ∀ {c2 W2}, Step No cr wr c2 W2 → _ := fun st => rtop_any (i1.kn st)
      have AM : ∀ {c2 W2}, Step No cr wr c2 W2 → _ := fun st => among_any (hvr.kn st) s.low (topL s.l) h1.fine.good.low.has (h1.fine.good.top hl).1.has
      rw [hhd'] at AM
      have KS : ∀ {c2 W2}, Step No cr wr c2 W2 → (fun W => W.cell? ⟨b, 0, none⟩ = some (.int .i64 s.low)) W2 := fun st => (i1.kn st).c0
      have X := Lib.hid (And.intro hhd (And.intro oa (And.intro ob (And.intro sr (And.intro ok (And.intro i1 (And.intro h1 hl)))))))
      have lb := i1.lt
      clear hhd hhd' oa ob sr i1 h1 hl hos hvr
      go_wp2_with fail
      have K1 := KS (Step.rf (c := cr) (w := wr)).drew
      refine region_planM (fun W => W.cell? ⟨b, 0, none⟩ = some (.int .i64 s.low)) (fun i => !([16] : List Nat).contains i) (by kernel_rfl) ?_
      refine wpAnyM.takeT (i := 0) (v := _) (some 40) rfl rfl (by kernel_rfl) (by kernel_rfl) (by kernel_rfl) (by kernel_rfl) (by kernel_rfl) (fun _ _ _ h => h) (Or.inl ⟨by rfl, fun W hW => by first | (obtain q0 := hW; go_simp <;> rfl) | (obtain q0 := hW; go_simp; done)⟩) K1 ?_
      (try simp only [Act.put, List.setIfInBounds_toArray, List.set_cons_zero, List.set_cons_succ])
      refine wpAnyM.takeT (i := 1) (v := _) (some 41) rfl rfl (by kernel_rfl) (by kernel_rfl) (by kernel_rfl) (by kernel_rfl) (by kernel_rfl) (fun _ _ _ h => h) (Or.inl ⟨by rfl, fun W hW => by first | (obtain q0 := hW; go_simp <;> rfl) | (obtain q0 := hW; go_simp; done)⟩) K1 ?_
      (try simp only [Act.put, List.setIfInBounds_toArray, List.set_cons_zero, List.set_cons_succ])
      refine wpAnyM.takeT (i := 2) (v := _) (some 42) rfl rfl (by kernel_rfl) (by kernel_rfl) (by kernel_rfl) (by kernel_rfl) (by kernel_rfl) (fun _ _ _ h => h) (Or.inl ⟨by rfl, fun W hW => by first | (obtain q0 := hW; go_simp <;> rfl) | (obtain q0 := hW; go_simp; done)⟩) K1 ?_
      (try simp only [Act.put, List.setIfInBounds_toArray, List.set_cons_zero, List.set_cons_succ])
      refine wpAnyM.takeT (i := 3) (v := _) (some 43) rfl rfl (by kernel_rfl) (by kernel_rfl) (by kernel_rfl) (by kernel_rfl) (by kernel_rfl) (fun _ _ _ h => h) (Or.inl ⟨by rfl, fun W hW => by first | (obtain q0 := hW; go_simp <;> rfl) | (obtain q0 := hW; go_simp; done)⟩) K1 ?_
      (try simp only [Act.put, List.setIfInBounds_toArray, List.set_cons_zero, List.set_cons_succ])
      refine wpAnyM.takeT (i := 4) (v := _) (some 44) rfl rfl (by kernel_rfl) (by kernel_rfl) (by kernel_rfl) (by kernel_rfl) (by kernel_rfl) (fun _ _ _ h => h) (Or.inl ⟨by rfl, fun W hW => by first | (obtain q0 := hW; go_simp <;> rfl) | (obtain q0 := hW; go_simp; done)⟩) K1 ?_
      (try simp only [Act.put, List.setIfInBounds_toArray, List.set_cons_zero, List.set_cons_succ])
      refine wpAnyM.takeT (i := 6) (v := _) (some 46) rfl rfl (by kernel_rfl) (by kernel_rfl) (by kernel_rfl) (by kernel_rfl) (by kernel_rfl) (fun _ _ _ h => h) (Or.inl ⟨by rfl, fun W hW => by first | (obtain q0 := hW; go_simp <;> rfl) | (obtain q0 := hW; go_simp; done)⟩) K1 ?_
      (try simp only [Act.put, List.setIfInBounds_toArray, List.set_cons_zero, List.set_cons_succ])
      refine wpAnyM.takeT (i := 7) (v := _) (some 47) rfl rfl (by kernel_rfl) (by kernel_rfl) (by kernel_rfl) (by kernel_rfl) (by kernel_rfl) (fun _ _ _ h => h) (Or.inl ⟨by rfl, fun W hW => by first | (obtain q0 := hW; go_simp <;> rfl) | (obtain q0 := hW; go_simp; done)⟩) K1 ?_
      (try simp only [Act.put, List.setIfInBounds_toArray, List.set_cons_zero, List.set_cons_succ])
      refine wpAnyM.takeT (i := 8) (v := _) (some 48) rfl rfl (by kernel_rfl) (by kernel_rfl) (by kernel_rfl) (by kernel_rfl) (by kernel_rfl) (fun _ _ _ h => h) (Or.inl ⟨by rfl, fun W hW => by first | (obtain q0 := hW; go_simp <;> rfl) | (obtain q0 := hW; go_simp; done)⟩) K1 ?_
      (try simp only [Act.put, List.setIfInBounds_toArray, List.set_cons_zero, List.set_cons_succ])
      refine wpAnyM.takeT (i := 9) (v := _) (some 49) rfl rfl (by kernel_rfl) (by kernel_rfl) (by kernel_rfl) (by kernel_rfl) (by kernel_rfl) (fun _ _ _ h => h) (Or.inl ⟨by rfl, fun W hW => by first | (obtain q0 := hW; go_simp <;> rfl) | (obtain q0 := hW; go_simp; done)⟩) K1 ?_
      (try simp only [Act.put, List.setIfInBounds_toArray, List.set_cons_zero, List.set_cons_succ])
      refine wpAnyM.takeT (i := 10) (v := _) (some 50) rfl rfl (by kernel_rfl) (by kernel_rfl) (by kernel_rfl) (by kernel_rfl) (by kernel_rfl) (fun _ _ _ h => h) (Or.inl ⟨by rfl, fun W hW => by first | (obtain q0 := hW; go_simp <;> rfl) | (obtain q0 := hW; go_simp; done)⟩) K1 ?_
      (try simp only [Act.put, List.setIfInBounds_toArray, List.set_cons_zero, List.set_cons_succ])
      refine wpAnyM.takeT (i := 11) (v := _) (some 51) rfl rfl (by kernel_rfl) (by kernel_rfl) (by kernel_rfl) (by kernel_rfl) (by kernel_rfl) (fun _ _ _ h => h) (Or.inl ⟨by rfl, fun W hW => by first | (obtain q0 := hW; go_simp <;> rfl) | (obtain q0 := hW; go_simp; done)⟩) K1 ?_
      (try simp only [Act.put, List.setIfInBounds_toArray, List.set_cons_zero, List.set_cons_succ])
      refine wpAnyM.forkR (m := 1) (doneF := #[true, true, true, true, true, true, true, true, true, true, true, true, true, true, true, true, false]) [(45, .int .i64 (topL s.l)), (52, .int .i64 (topL s.l)), (53, .bool hd), (54, .agg #[.int .i64 s.low, .int .i64 (topL s.l), .bool hd]), (14, .pointer (some ⟨wr.heap.size, 0, none⟩))] (fun W => ∃ W0, (∃ m, W0 = wr.drewN m) ∧ W = W0.alloc (.cells #[.int .i64 0, .int .i64 0, .bool false] 91)) (fun REST => ?_) (fun W2 hR => ?_)
      · (try simp only [List.foldl_cons, List.foldl_nil, Act.put, List.setIfInBounds_toArray, List.set_cons_zero, List.set_cons_succ] at REST)
        refine wpAnyM.fork2 (i := 5) (j := 15) (by kernel_rfl) rfl rfl (fun KQ hK => ?_) (fun KQ hK => ?_)
        · go_simp
          refine (T1 (c2 := cr) (by repeat (first | with_reducible exact Step.rf | with_reducible refine Step.drewN ?_ _ | with_reducible refine Step.alloc ?_ _ | with_reducible refine Step.drew ?_))).mono ?_
          rintro e w9 ⟨rfl, n9, rfl⟩
          refine hK.out _ _ (fun _ => KS (c2 := cr) (by repeat (first | with_reducible exact Step.rf | with_reducible refine Step.drewN ?_ _ | with_reducible refine Step.alloc ?_ _ | with_reducible refine Step.drew ?_))) ?_
          clear hK KQ
          (try simp only [List.foldl_cons, List.foldl_nil, Act.put, List.setIfInBounds_toArray, List.set_cons_zero, List.set_cons_succ])
          refine wpAnyM.fork2 (i := 12) (j := 15) (by kernel_rfl) rfl rfl (fun KQ hK => ?_) (fun KQ hK => ?_)
          · go_simp
            refine (T1 (c2 := cr) (by repeat (first | with_reducible exact Step.rf | with_reducible refine Step.drewN ?_ _ | with_reducible refine Step.alloc ?_ _ | with_reducible refine Step.drew ?_))).mono ?_
            rintro e w9 ⟨rfl, n9, rfl⟩
            refine hK.out _ _ (fun _ => KS (c2 := cr) (by repeat (first | with_reducible exact Step.rf | with_reducible refine Step.drewN ?_ _ | with_reducible refine Step.alloc ?_ _ | with_reducible refine Step.drew ?_))) ?_
            clear hK KQ
            (try simp only [List.foldl_cons, List.foldl_nil, Act.put, List.setIfInBounds_toArray, List.set_cons_zero, List.set_cons_succ])
            refine wpAnyM.fork2 (i := 13) (j := 15) (by kernel_rfl) rfl rfl (fun KQ hK => ?_) (fun KQ hK => ?_)
            · go_simp
              refine (AM (c2 := cr) (by repeat (first | with_reducible exact Step.rf | with_reducible refine Step.drewN ?_ _ | with_reducible refine Step.alloc ?_ _ | with_reducible refine Step.drew ?_))).mono ?_
              rintro e w9 ⟨rfl, rfl⟩
              refine hK.out _ _ (fun _ => KS (c2 := cr) (by repeat (first | with_reducible exact Step.rf | with_reducible refine Step.drewN ?_ _ | with_reducible refine Step.alloc ?_ _ | with_reducible refine Step.drew ?_))) ?_
              clear hK KQ
              (try simp only [List.foldl_cons, List.foldl_nil, Act.put, List.setIfInBounds_toArray, List.set_cons_zero, List.set_cons_succ])
              refine wpAnyM.takeT (i := 14) (v := _) (some 54) rfl rfl (by kernel_rfl) (by kernel_rfl) (by kernel_rfl) (by kernel_rfl) (by kernel_rfl) (fun _ _ _ h => h) (Or.inl ⟨by rfl, fun W hW => by first | (obtain q0 := hW; go_simp <;> rfl) | (obtain q0 := hW; go_simp; done)⟩) (KS (c2 := cr) (by repeat (first | with_reducible exact Step.rf | with_reducible refine Step.drewN ?_ _ | with_reducible refine Step.alloc ?_ _ | with_reducible refine Step.drew ?_))) ?_
              (try simp only [Act.put, List.setIfInBounds_toArray, List.set_cons_zero, List.set_cons_succ])
              refine wpAnyM.one (i := 15) (by kernel_rfl) rfl (fun KQ hK => ?_)
              go_simp
              skip
              refine hK.out _ _ (fun _ => KS (c2 := cr) (by repeat (first | with_reducible exact Step.rf | with_reducible refine Step.drewN ?_ _ | with_reducible refine Step.alloc ?_ _ | with_reducible refine Step.drew ?_))) ?_
              clear hK KQ
              (try simp only [List.foldl_cons, List.foldl_nil, Act.put, List.setIfInBounds_toArray, List.set_cons_zero, List.set_cons_succ])
              exact (REST _ (by first | exact ⟨_, ⟨_, rfl⟩, rfl⟩ | exact ⟨(wr.drewN _).drewN _, ⟨_, World.drewN_drewN _ _ _⟩, rfl⟩ | exact ⟨((wr.drewN _).drewN _).drewN _, ⟨_, by rw [World.drewN_drewN, World.drewN_drewN]⟩, rfl⟩)).cast (by kernel_rfl)
            · go_simp
              skip
              refine hK.out _ _ (fun _ => KS (c2 := cr) (by repeat (first | with_reducible exact Step.rf | with_reducible refine Step.drewN ?_ _ | with_reducible refine Step.alloc ?_ _ | with_reducible refine Step.drew ?_))) ?_
              clear hK KQ
              (try simp only [List.foldl_cons, List.foldl_nil, Act.put, List.setIfInBounds_toArray, List.set_cons_zero, List.set_cons_succ])
              refine wpAnyM.one (i := 13) (by kernel_rfl) rfl (fun KQ hK => ?_)
              go_simp
              refine (AM (c2 := cr) (by repeat (first | with_reducible exact Step.rf | with_reducible refine Step.drewN ?_ _ | with_reducible refine Step.alloc ?_ _ | with_reducible refine Step.drew ?_))).mono ?_
              rintro e w9 ⟨rfl, rfl⟩
              refine hK.out _ _ (fun _ => KS (c2 := cr) (by repeat (first | with_reducible exact Step.rf | with_reducible refine Step.drewN ?_ _ | with_reducible refine Step.alloc ?_ _ | with_reducible refine Step.drew ?_))) ?_
              clear hK KQ
              (try simp only [List.foldl_cons, List.foldl_nil, Act.put, List.setIfInBounds_toArray, List.set_cons_zero, List.set_cons_succ])
              refine wpAnyM.takeT (i := 14) (v := _) (some 54) rfl rfl (by kernel_rfl) (by kernel_rfl) (by kernel_rfl) (by kernel_rfl) (by kernel_rfl) (fun _ _ _ h => h) (Or.inl ⟨by rfl, fun W hW => by first | (obtain q0 := hW; go_simp <;> rfl) | (obtain q0 := hW; go_simp; done)⟩) (KS (c2 := cr) (by repeat (first | with_reducible exact Step.rf | with_reducible refine Step.drewN ?_ _ | with_reducible refine Step.alloc ?_ _ | with_reducible refine Step.drew ?_))) ?_
              (try simp only [Act.put, List.setIfInBounds_toArray, List.set_cons_zero, List.set_cons_succ])
              exact (REST _ (by first | exact ⟨_, ⟨_, rfl⟩, rfl⟩ | exact ⟨(wr.drewN _).drewN _, ⟨_, World.drewN_drewN _ _ _⟩, rfl⟩ | exact ⟨((wr.drewN _).drewN _).drewN _, ⟨_, by rw [World.drewN_drewN, World.drewN_drewN]⟩, rfl⟩)).cast (by kernel_rfl)
          · go_simp
            skip
            refine hK.out _ _ (fun _ => KS (c2 := cr) (by repeat (first | with_reducible exact Step.rf | with_reducible refine Step.drewN ?_ _ | with_reducible refine Step.alloc ?_ _ | with_reducible refine Step.drew ?_))) ?_
            clear hK KQ
            (try simp only [List.foldl_cons, List.foldl_nil, Act.put, List.setIfInBounds_toArray, List.set_cons_zero, List.set_cons_succ])
            refine wpAnyM.one (i := 12) (by kernel_rfl) rfl (fun KQ hK => ?_)
            go_simp
            refine (T1 (c2 := cr) (by repeat (first | with_reducible exact Step.rf | with_reducible refine Step.drewN ?_ _ | with_reducible refine Step.alloc ?_ _ | with_reducible refine Step.drew ?_))).mono ?_
            rintro e w9 ⟨rfl, n9, rfl⟩
            refine hK.out _ _ (fun _ => KS (c2 := cr) (by repeat (first | with_reducible exact Step.rf | with_reducible refine Step.drewN ?_ _ | with_reducible refine Step.alloc ?_ _ | with_reducible refine Step.drew ?_))) ?_
            clear hK KQ
            (try simp only [List.foldl_cons, List.foldl_nil, Act.put, List.setIfInBounds_toArray, List.set_cons_zero, List.set_cons_succ])
            refine wpAnyM.one (i := 13) (by kernel_rfl) rfl (fun KQ hK => ?_)
            go_simp
            refine (AM (c2 := cr) (by repeat (first | with_reducible exact Step.rf | with_reducible refine Step.drewN ?_ _ | with_reducible refine Step.alloc ?_ _ | with_reducible refine Step.drew ?_))).mono ?_
            rintro e w9 ⟨rfl, rfl⟩
            refine hK.out _ _ (fun _ => KS (c2 := cr) (by repeat (first | with_reducible exact Step.rf | with_reducible refine Step.drewN ?_ _ | with_reducible refine Step.alloc ?_ _ | with_reducible refine Step.drew ?_))) ?_
            clear hK KQ
            (try simp only [List.foldl_cons, List.foldl_nil, Act.put, List.setIfInBounds_toArray, List.set_cons_zero, List.set_cons_succ])
            refine wpAnyM.takeT (i := 14) (v := _) (some 54) rfl rfl (by kernel_rfl) (by kernel_rfl) (by kernel_rfl) (by kernel_rfl) (by kernel_rfl) (fun _ _ _ h => h) (Or.inl ⟨by rfl, fun W hW => by first | (obtain q0 := hW; go_simp <;> rfl) | (obtain q0 := hW; go_simp; done)⟩) (KS (c2 := cr) (by repeat (first | with_reducible exact Step.rf | with_reducible refine Step.drewN ?_ _ | with_reducible refine Step.alloc ?_ _ | with_reducible refine Step.drew ?_))) ?_
            (try simp only [Act.put, List.setIfInBounds_toArray, List.set_cons_zero, List.set_cons_succ])
            exact (REST _ (by first | exact ⟨_, ⟨_, rfl⟩, rfl⟩ | exact ⟨(wr.drewN _).drewN _, ⟨_, World.drewN_drewN _ _ _⟩, rfl⟩ | exact ⟨((wr.drewN _).drewN _).drewN _, ⟨_, by rw [World.drewN_drewN, World.drewN_drewN]⟩, rfl⟩)).cast (by kernel_rfl)
        · go_simp
          skip
          refine hK.out _ _ (fun _ => KS (c2 := cr) (by repeat (first | with_reducible exact Step.rf | with_reducible refine Step.drewN ?_ _ | with_reducible refine Step.alloc ?_ _ | with_reducible refine Step.drew ?_))) ?_
          clear hK KQ
          (try simp only [List.foldl_cons, List.foldl_nil, Act.put, List.setIfInBounds_toArray, List.set_cons_zero, List.set_cons_succ])
          refine wpAnyM.one (i := 5) (by kernel_rfl) rfl (fun KQ hK => ?_)
          go_simp
          refine (T1 (c2 := cr) (by repeat (first | with_reducible exact Step.rf | with_reducible refine Step.drewN ?_ _ | with_reducible refine Step.alloc ?_ _ | with_reducible refine Step.drew ?_))).mono ?_
          rintro e w9 ⟨rfl, n9, rfl⟩
          refine hK.out _ _ (fun _ => KS (c2 := cr) (by repeat (first | with_reducible exact Step.rf | with_reducible refine Step.drewN ?_ _ | with_reducible refine Step.alloc ?_ _ | with_reducible refine Step.drew ?_))) ?_
          clear hK KQ
          (try simp only [List.foldl_cons, List.foldl_nil, Act.put, List.setIfInBounds_toArray, List.set_cons_zero, List.set_cons_succ])
          refine wpAnyM.one (i := 12) (by kernel_rfl) rfl (fun KQ hK => ?_)
          go_simp
          refine (T1 (c2 := cr) (by repeat (first | with_reducible exact Step.rf | with_reducible refine Step.drewN ?_ _ | with_reducible refine Step.alloc ?_ _ | with_reducible refine Step.drew ?_))).mono ?_
          rintro e w9 ⟨rfl, n9, rfl⟩
          refine hK.out _ _ (fun _ => KS (c2 := cr) (by repeat (first | with_reducible exact Step.rf | with_reducible refine Step.drewN ?_ _ | with_reducible refine Step.alloc ?_ _ | with_reducible refine Step.drew ?_))) ?_
          clear hK KQ
          (try simp only [List.foldl_cons, List.foldl_nil, Act.put, List.setIfInBounds_toArray, List.set_cons_zero, List.set_cons_succ])
          refine wpAnyM.one (i := 13) (by kernel_rfl) rfl (fun KQ hK => ?_)
          go_simp
          refine (AM (c2 := cr) (by repeat (first | with_reducible exact Step.rf | with_reducible refine Step.drewN ?_ _ | with_reducible refine Step.alloc ?_ _ | with_reducible refine Step.drew ?_))).mono ?_
          rintro e w9 ⟨rfl, rfl⟩
          refine hK.out _ _ (fun _ => KS (c2 := cr) (by repeat (first | with_reducible exact Step.rf | with_reducible refine Step.drewN ?_ _ | with_reducible refine Step.alloc ?_ _ | with_reducible refine Step.drew ?_))) ?_
          clear hK KQ
          (try simp only [List.foldl_cons, List.foldl_nil, Act.put, List.setIfInBounds_toArray, List.set_cons_zero, List.set_cons_succ])
          refine wpAnyM.takeT (i := 14) (v := _) (some 54) rfl rfl (by kernel_rfl) (by kernel_rfl) (by kernel_rfl) (by kernel_rfl) (by kernel_rfl) (fun _ _ _ h => h) (Or.inl ⟨by rfl, fun W hW => by first | (obtain q0 := hW; go_simp <;> rfl) | (obtain q0 := hW; go_simp; done)⟩) (KS (c2 := cr) (by repeat (first | with_reducible exact Step.rf | with_reducible refine Step.drewN ?_ _ | with_reducible refine Step.alloc ?_ _ | with_reducible refine Step.drew ?_))) ?_
          (try simp only [Act.put, List.setIfInBounds_toArray, List.set_cons_zero, List.set_cons_succ])
          exact (REST _ (by first | exact ⟨_, ⟨_, rfl⟩, rfl⟩ | exact ⟨(wr.drewN _).drewN _, ⟨_, World.drewN_drewN _ _ _⟩, rfl⟩ | exact ⟨((wr.drewN _).drewN _).drewN _, ⟨_, by rw [World.drewN_drewN, World.drewN_drewN]⟩, rfl⟩)).cast (by kernel_rfl)
      (try simp only [List.foldl_cons, List.foldl_nil, Act.put, List.setIfInBounds_toArray, List.set_cons_zero, List.set_cons_succ])
      obtain ⟨W0, ⟨m, rfl⟩, rfl⟩ := hR
      have sW := (Step.rf (c := cr) (w := wr).drewN m).alloc (.cells #[.int .i64 0, .int .i64 0, .bool false] 91)
      have oW := (ok.drewN m).alloc (.cells #[.int .i64 0, .int .i64 0, .bool false] 91)
      have aW := At.new0 (ok.drewN m) [.int .i64 0, .int .i64 0, .bool false] 91
      have fW := soft_new (wr.drewN m) [.int .i64 0, .int .i64 0, .bool false] 91
      have zW : (wr.drewN m).heap.size = wr.heap.size := rfl
      rw [zW] at aW fW
      obtain ⟨W, hW⟩ : ∃ W, (wr.drewN m).alloc (.cells #[.int .i64 0, .int .i64 0, .bool false] 91) = W := ⟨_, rfl⟩
      replace aW : At cr W wr.heap.size 0 [.int .i64 0, .int .i64 0, .bool false] := hW ▸ aW
      replace fW : Soft W wr.heap.size := hW ▸ fW
      rw [hW] at sW oW ⊢
      clear hW zW
      have K2 := KS sW
      have a0 := aW.cells 0 _ rfl
      have a1 := aW.cells 1 _ rfl
      have a2 := aW.cells 2 _ rfl
      have b0 := fW 0
      have b1 := fW 1
      have b2 := fW 2
      refine wpAnyM.one (i := 16) (by kernel_rfl) rfl (fun KQ hK => ?_)
      go_simp
      refine hK.out _ _ (fun h => absurd h (by decide)) ?_
      clear hK KQ
      (try simp only [Act.put, List.setIfInBounds_toArray, List.set_cons_zero, List.set_cons_succ])
      refine wpAnyM.done (by kernel_rfl) ?_ _
      have A3 := ((aW.setj (j := 0) (by simp) (.int .i64 s.low)).setj (j := 1) (by simp) (.int .i64 (topL s.l))).setj (j := 2) (by simp) (.bool hd)
      have S3 := ((sW.setCell (a := ⟨wr.heap.size, 0, none⟩) (.inl (Nat.le_refl _)) (.int .i64 s.low)).setCell (a := ⟨wr.heap.size, 1, none⟩) (.inl (Nat.le_refl _)) (.int .i64 (topL s.l))).setCell (a := ⟨wr.heap.size, 2, none⟩) (.inl (Nat.le_refl _)) (.bool hd)
      have O3 := ((oW.setCell ⟨wr.heap.size, 0, none⟩ (.int .i64 s.low)).setCell ⟨wr.heap.size, 1, none⟩ (.int .i64 (topL s.l))).setCell ⟨wr.heap.size, 2, none⟩ (.bool hd)
      simp only [List.set_cons_zero, List.set_cons_succ] at A3
      obtain ⟨W3, hW3⟩ : ∃ W3, ((W.setCell ⟨wr.heap.size, 0, none⟩ (.int .i64 s.low)).setCell ⟨wr.heap.size, 1, none⟩ (.int .i64 (topL s.l))).setCell ⟨wr.heap.size, 2, none⟩ (.bool hd) = W3 := ⟨_, rfl⟩
      rw [hW3] at A3 S3 O3 ⊢
      clear hW3 K1 K2 a0 a1 a2 b0 b1 b2 aW fW sW oW KS T1 AM ok
      have p0 := A3.get 0 rfl
      have p1 := A3.get 1 rfl
      have p2 := A3.get 2 rfl
      obtain ⟨hhd, oa, ob, sr, ok, i1, h1, hl⟩ := X.out
      have hrd : TTri.rd cr 0 W3 [.int .i64 s.low, .int .i64 (topL s.l), .bool hd] (tri hs s) := by rw [← hhd]; rfl
      obtain ⟨x1, x2, x3⟩ := put_one (T := TTri) (x := tri hs s) (vs := [.int .i64 s.low, .int .i64 (topL s.l), .bool hd]) (k2 := 0) O3 hrd 91
      have oa3 := (oa.kn S3).kn x3
      have hpl : pre.length ≤ 10000 := by have := h1.mu; omega
      have hal : asked.length ≤ 10000 := by have := h1.al; omega
      have hq0 : 0 ≠ q := by omega
      have hm1 : pre.length + [tri hs s].length ≤ maxLen := by simp [maxLen]; omega
      have hm2 : (pre.length + [tri hs s].length) * 24 ≤ 140737488355328 := by simp; omega
      have S4 := S3.trans x3
      have X2 := Lib.hid (And.intro hhd (And.intro ob (And.intro sr (And.intro i1 (And.intro h1 (And.intro hl A3))))))
      clear hhd oa ob sr i1 h1 hl A3 X O3 S3
      go_wp2_with (at_builtin; refine wpList_app TTri x1 rfl _ _ 53 rfl 91 Try.underlying53 infoTry rfl (by decide) rfl rfl oa3 x2 hq0 hm1 hm2 ?_; rintro v' w' c' b1 b2 b3 -; obtain ⟨va', vc', rfl, _⟩ := b1.sl.form; rw [show (pre ++ [tri hs s]).length = pre.length + 1 by simp] at b1; have e2 := (((X2.out.2.2.2.2.2.2).keep x3 (fun h => h)).keep b2 (by show ¬ 0 = q; omega)).get 2 rfl; cases hd)
      · obtain ⟨hhd, ob, sr, i1, h1, hl, _⟩ := X2.out
        have sT := S4.ofNo.trans b2
        have i4 := i1.keep sT (by show ¬ ks = q; omega) (by show ¬ kr = q; omega) (by show ¬ 0 = q; omega)
        have C1 := rsplit_any b3 i4 h1.fine.good (by omega) (by omega) h1.len
        have lb2 := i4.lt
        have ob4 := ob.keep sT (by show ¬ q2 = q; omega) (by show ¬ 0 = q; omega)
        have Y := Lib.hid (And.intro hhd (And.intro sr (And.intro i1 (And.intro h1 (And.intro hl (And.intro sT (And.intro b1 ob4)))))))
        clear hhd ob sr i1 h1 hl sT i4 b1 b2 b3 ob4 x1 x2 x3 oa3 X2 S4
        by_cases hse : splitE s = 0
        · have HS := Lib.hid hse
          rw [hse] at C1
          clear hse
          go_wp2_with fail
          with_reducible refine C1.mono ?_
          rintro e W5 ⟨rfl, c5, i5, s5, o5⟩
          obtain ⟨hhd, sr, i1, h1, hl, sT, b1, ob4⟩ := Y.out
          obtain ⟨x1, x2, x3⟩ := put_one (T := TInt .i64) (x := splitH s) (vs := [.int .i64 (splitH s)]) (k2 := 0) o5 ⟨rfl, (splitH_has h1.fine.good HS.out)⟩ 3
          have ob5 := (ob4.keep s5 (by show ¬ q2 = ks; omega) (by show ¬ 0 = ks; omega)).kn x3
          have b15 := b1.keep s5 (by show ¬ q = ks; omega) (by show ¬ 0 = ks; omega)
          have hq20 : 0 ≠ q2 := by omega
          have hn1 : (t :: asked).length + [splitH s].length ≤ maxLen := by simp [maxLen]; omega
          have hn2 : ((t :: asked).length + [splitH s].length) * 8 ≤ 140737488355328 := by simp; omega
          have Y2 := Lib.hid (And.intro hhd (And.intro sr (And.intro i1 (And.intro h1 (And.intro hl (And.intro sT (And.intro b15 (And.intro i5 s5))))))))
          clear hhd sr i1 h1 hl sT b1 b15 ob4 i5 s5 C1 e2 Y
          go_wp2_with (at_builtin; refine wpList_app (TInt .i64) x1 rfl _ _ 54 rfl 3 Try.underlying54 infoInt rfl (by decide) rfl rfl ob5 x2 hq20 hn1 hn2 ?_; rintro v5 w5 c6 d1 d2 d3 -)
          obtain ⟨hhd, sr, i1, h1, hl, sT, b15, i5, s5⟩ := Y2.out
          have sF := x3.ofNo.trans d2
          have i6 := i5.keep sF (by show ¬ ks = q2; omega) (by show ¬ kr = q2; omega) (by show ¬ 0 = q2; omega)
          have sAll : Step (K4 q q2 ks kr) c w c6 w5 := ((sr.trans (sT.mono fun j h => .inl h)).trans (s5.mono fun j h => .inr (.inr (.inl h)))).trans (sF.mono fun j h => .inr (.inl h))
          go_roundw
          case rel => exact ⟨splitS s, _, _, c6, h1.split hhd HS.out, i6, b15.keep sF (by show ¬ q = q2; omega) (by show ¬ 0 = q2; omega), d1, sAll, d3⟩
          case measure => rw [muW_eq i6, muW_eq i1]; exact muS_split h1.fine HS.out
        · have HS := Lib.hid hse
          have hse' : (splitE s == 0) = false := by simpa using hse
          clear hse
          go_wp2_with fail
          with_reducible refine C1.mono ?_
          rintro e W5 ⟨rfl, c5, i5, s5, o5⟩
          clear C1
          go_wp2
          obtain ⟨hhd, sr, i1, h1, hl, sT, b1, ob4⟩ := Y.out
          have ob5 := ob4.keep s5 (by show ¬ q2 = ks; omega) (by show ¬ 0 = ks; omega)
          have b15 := b1.keep s5 (by show ¬ q = ks; omega) (by show ¬ 0 = ks; omega)
          have sAll : Step (K4 q q2 ks kr) c w c5 W5 := (sr.trans (sT.mono fun j h => .inl h)).trans (s5.mono fun j h => .inr (.inr (.inl h)))
          obtain ⟨c', y1, y2, y3, y4⟩ := out2R (ka := ka) (kb := kb) b15 ob5 sAll o5 hqc hqc2 hksc hkrc (by omega) (by omega) (by omega) (by omega)
          have hbr := h1.broken hl hhd HS.out
          exact bodyPost_ret (v := .tuple #[.slice va' (pre.length + 1) vc', .slice ya (asked.length + 1) yc, .bool false, .int .i64 0]) (by simp [results, Try.results29, go_sem]) rfl ⟨_, _, by rw [hbr], c', by rw [hbr]; exact y1, by rw [hbr]; exact y2, y3, y4⟩
      · obtain ⟨hhd, ob, sr, i1, h1, hl, _⟩ := X2.out
        have sT := S4.ofNo.trans b2
        have i4 := i1.keep sT (by show ¬ ks = q; omega) (by show ¬ kr = q; omega) (by show ¬ 0 = q; omega)
        have C1 := rpop_any b3 i4 (by omega) (by omega)
        have lb2 := i4.lt
        have ob4 := ob.keep sT (by show ¬ q2 = q; omega) (by show ¬ 0 = q; omega)
        have Y := Lib.hid (And.intro hhd (And.intro sr (And.intro i1 (And.intro h1 (And.intro hl (And.intro sT (And.intro b1 ob4)))))))
        clear hhd ob sr i1 h1 hl sT i4 b1 b2 b3 ob4 x1 x2 x3 oa3 X2 S4
        go_wp2_with fail
        with_reducible refine C1.mono ?_
        rintro e W5 ⟨rfl, i5, s5, o5⟩
        clear C1
        go_wp2
        obtain ⟨hhd, sr, i1, h1, hl, sT, b1, ob4⟩ := Y.out
        have sAll : Step (K4 q q2 ks kr) c w _ W5 := (sr.trans (sT.mono fun j h => .inl h)).trans (s5.mono fun j h => .inr (.inr (.inl h)))
        go_roundw
        case rel => exact ⟨popS s, _, _, _, h1.pop hl hhd, i5, b1.keep s5 (by show ¬ q = ks; omega) (by show ¬ 0 = ks; omega), ob4.keep s5 (by show ¬ q2 = ks; omega) (by show ¬ 0 = ks; omega), sAll, o5⟩
        case measure => rw [muW_eq i5, muW_eq i1]; exact muS_pop h1.fine hl
end
end Go.Proofs.Ytcagfdmafelbkaa
