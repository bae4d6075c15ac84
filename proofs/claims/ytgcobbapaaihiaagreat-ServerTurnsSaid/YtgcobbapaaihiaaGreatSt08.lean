/- ServerTurns, part 08: lemmas, each with its own conditions. -/
import Derived.Test.YtgcobbapaaihiaaGreatSt02
import Derived.Test.YtgcobbapaaihiaaGreatSt03
import Derived.Test.YtgcobbapaaihiaaGreatSt07
import Derived.Deep.CutRange
import Derived.Laws.BitsAll
import Derived.Laws.BitsAllLaws
set_option linter.unusedVariables false
set_option linter.unusedSimpArgs false
namespace Go.Proofs.YtgcobbapaaihiaaGreat
open Go.RowKit

def lookC (last : List UInt8) (begun : Bool) (least most : Int) : List Value := bC last ++ [.bool begun, .int .i64 least, .int .i64 most]

/-- The key ahead, if there is one. -/
def lastO : Bool → List UInt8 → Option (List UInt8)
  | true, l => some l
  | false, _ => none

section
variable {c : Col} {w : World}

theorem At.pre {b k : Nat} {xs ys : List Value} (h : At c w b k (xs ++ ys)) : At c w b k xs := ⟨h.col, h.lt, (cells_app h.cells).1⟩

theorem cells_join {w : World} {b off : Nat} {xs ys : List Value} (h1 : CellsAt w b off xs) (h2 : CellsAt w b (off + xs.length) ys) : CellsAt w b off (xs ++ ys) := by
  intro j u hu
  rcases Nat.lt_or_ge j xs.length with h | h
  · rw [List.getElem?_append_left h] at hu; exact h1 j u hu
  · rw [List.getElem?_append_right h] at hu
    have := h2 _ u hu
    rw [show off + xs.length + (j - xs.length) = off + j by omega] at this
    exact this

theorem look_set {xb k : Nat} {last : List UInt8} (hl : last.length = 4) {begun : Bool} {least most : Int} (h : At c w xb k (lookC last begun least most)) (hok : Ok c w) (hk0 : k ≠ 0) {key : List UInt8} (hk : key.length = 4) :
    w.there xb 0 (bC key).toArray.size ∧ At c ((w.setCells xb 0 (bC key)).setCell ⟨xb, 4, none⟩ (.bool true)) xb k (lookC key true least most) ∧
      Step (One k) c w c ((w.setCells xb 0 (bC key)).setCell ⟨xb, 4, none⟩ (.bool true)) ∧ Ok c ((w.setCells xb 0 (bC key)).setCell ⟨xb, 4, none⟩ (.bool true)) := by
  have ht : w.there xb 0 (bC key).length := h.there hok hk0 (by simp [lookC, bC_len, hl, hk])
  have e1 : CellsAt (w.setCells xb 0 (bC key)) xb 0 (bC key) := World.rangeAt_setCells_same w xb 0 (bC key) ht
  have e2 : CellsAt (w.setCells xb 0 (bC key)) xb 4 [.bool begun, .int .i64 least, .int .i64 most] := by
    have h2 := (cells_app h.cells).2
    rw [bC_len, hl, Nat.zero_add] at h2
    intro j u hu
    rw [World.cell?_setCells_out xb (bC key) 0 w ⟨xb, 4 + j, none⟩ (fun _ _ => .inr (by show 0 + (bC key).length ≤ 4 + j; rw [bC_len, hk]; omega))]
    exact h2 j u hu
  have s1 : Step (One k) c w c (w.setCells xb 0 (bC key)) := Step.setCells (K := One k) (.inr h.col) _ _ _ Step.refl
  have o1 := Ok.setCells (b := xb) (bC key) 0 _ hok
  have a1 : At c (w.setCells xb 0 (bC key)) xb k (lookC key begun least most) := ⟨h.col, by rw [size_setCells]; exact h.lt, cells_join e1 (by rw [bC_len, hk]; exact e2)⟩
  have a2 := a1.setN (i := 4) (by simp [lookC, bC_len, hk]) (.bool true)
  rw [show (lookC key begun least most).set 4 (.bool true) = lookC key true least most by
    unfold lookC
    rw [List.set_append_right _ _ (by rw [bC_len]; omega), bC_len, hk]
    rfl] at a2
  exact ⟨by simpa using ht, a2, s1.setCell (a := ⟨xb, 4, none⟩) (.inr h.col) _, o1.setCell _ _⟩

set_option maxRecDepth 100000 in
set_option maxHeartbeats 1600000 in
theorem at_any (hok : Ok c w) {xb k : Nat} (hk0 : k ≠ 0) {last : List UInt8} (hl : last.length = 4) (begun : Bool) (least most : Int) (hx : At c w xb k (lookC last begun least most)) (v : Vld) (hv : v.key.length = 4) :
    Calls Tryz.prog 159 #[.pointer (some ⟨xb, 0, none⟩), .agg (valC v).toArray] w fun r w' => r = .returned (.int .i64 (atV (lastO begun last) least most v)) ∧
      ∃ c', At c' w' xb k (lookC v.key true least most) ∧ Step (One k) c w c' w' ∧ Ok c' w' := by
  obtain ⟨Ah, hA⟩ : ∃ b, aheadV (lastO begun last) v = b := ⟨_, rfl⟩
  have a0 := At.new0 hok (valC v) 93
  have o0 := hok.alloc (.cells (valC v).toArray 93)
  have s0 : Step No c w c (w.alloc (.cells (valC v).toArray 93)) := Step.refl.alloc _
  obtain ⟨vb, hvb⟩ : ∃ b, w.heap.size = b := ⟨_, rfl⟩
  rw [hvb] at a0
  obtain ⟨W0, hW0⟩ : ∃ W, w.alloc (.cells (valC v).toArray 93) = W := ⟨_, rfl⟩
  rw [hW0] at a0 o0 s0
  have x0 := hx.keep s0 (fun h => h)
  have hxv : vb ≠ xb := by have := hx.lt; omega
  obtain ⟨V, hV⟩ : ∃ V, valC v = V := ⟨_, rfl⟩
  have y4 := x0.get (i := 4) (u := .bool begun) (by simp [lookC, bC_len, hl])
  have X0 := Lib.hid (And.intro a0 (And.intro x0 (And.intro s0 (And.intro o0 hA))))
  have HX := Lib.hid (And.intro hl (And.intro hv hV))
  rw [hV] at hW0 ⊢
  clear a0 o0 s0 x0 hx hok hA hV hl hv
  go_enter Tryz.func159, Tryz.ntmps159
  go_upto_region 1 with fail
  (try rw [hW0])
  go_cut [5] from 6 to 19 (fun v5 wr => v5 = .bool Ah ∧ ∃ n, wr = W0.drewN n)
  case first =>
    rcases begun with _ | _
    · have KK : (fun W : World => W.cell? ⟨xb, 4, none⟩ = some (.bool false)) W0.drew := y4
      have hA : Ah = false := by have := X0.out.2.2.2.2; rw [← this]; rfl
      refine region_planM (fun W => W.cell? ⟨xb, 4, none⟩ = some (.bool false)) (fun i => !([14] : List Nat).contains i) (by kernel_rfl) ?_
      refine tk1 0 _ 6 rfl rfl KK ?_
      refine tk1 1 _ 7 rfl rfl KK ?_
      refine tk1 2 _ 8 rfl rfl KK ?_
      refine tk1 3 _ 9 rfl rfl KK ?_
      refine tk1 4 _ 10 rfl rfl KK ?_
      refine tku 5 _ 11 rfl rfl KK ?_
      refine tku 6 _ 12 rfl rfl KK ?_
      refine tku 7 _ 13 rfl rfl KK ?_
      refine tku 8 _ 14 rfl rfl KK ?_
      refine tku 9 _ 15 rfl rfl KK ?_
      refine tku 10 _ 16 rfl rfl KK ?_
      refine tku 11 _ 17 rfl rfl KK ?_
      refine tku 12 _ 18 rfl rfl KK ?_
      refine tk1 13 _ 19 rfl rfl KK ?_
      refine wpAnyM.one (i := 14) (by kernel_rfl) rfl (fun KQ hK => ?_)
      go_simp
      refine hK.out _ _ (fun h => absurd h (by decide)) ?_
      clear hK KQ
      (try simp only [Act.put, List.setIfInBounds_toArray, List.set_cons_zero, List.set_cons_succ])
      refine wpAnyM.done (by kernel_rfl) ?_ _
      go_wp2_with fail
      go_meet
      case rel => exact ⟨by rw [hA], 1, rfl⟩
    · obtain ⟨A, hAe⟩ : ∃ A, Go.Lib.compareBytes last v.key = A := ⟨_, rfl⟩
      have hA : Ah = decide (0 ≤ A) := by have := X0.out.2.2.2.2; rw [← this, ← hAe]; rfl
      have q1 := ((X0.out.2.1.keep (Step.rf.drewN (K := No) 1) (fun h => h)).pre).sl (k2 := 0) 0 4 (by rw [HX.out.1]; omega) 4 (Nat.le_refl _) (by simp only [maxLen]; omega)
      have q2 := ((X0.out.1.keep (Step.rf.drewN (K := No) 1) (fun h => h)).pre).sl (k2 := 0) 0 4 (by rw [HX.out.2.1]; omega) 4 (Nat.le_refl _) (by simp only [maxLen]; omega)
      rw [List.drop_zero, List.take_of_length_le (by rw [HX.out.1]; omega)] at q1
      rw [List.drop_zero, List.take_of_length_le (by rw [HX.out.2.1]; omega)] at q2
      have CM := compare_any q1 q2
      rw [hAe] at CM
      clear q1 q2 hAe
      have KK : (fun W : World => W.cell? ⟨xb, 4, none⟩ = some (.bool true)) W0.drew := y4
      have hs1 := fun W => run_arr0 (t := 91) Tryz.underlying91 W xb
      have hs2 := fun W => run_arr0 (t := 91) Tryz.underlying91 W vb
      refine region_planM (fun W => W.cell? ⟨xb, 4, none⟩ = some (.bool true)) (fun i => !([14] : List Nat).contains i) (by kernel_rfl) ?_
      refine tk1 0 _ 6 rfl rfl KK ?_
      refine tk1 1 _ 7 rfl rfl KK ?_
      refine tk1 2 _ 8 rfl rfl KK ?_
      refine tk1 3 _ 9 rfl rfl KK ?_
      refine tk1 4 _ 10 rfl rfl KK ?_
      refine tk1 5 _ 11 rfl rfl KK ?_
      refine tk1 6 _ 12 rfl rfl KK ?_
      refine tk1 7 _ 13 rfl rfl KK ?_
      refine tk1 8 _ 14 rfl rfl KK ?_
      refine tk1 9 _ 15 rfl rfl KK ?_
      refine tk1 10 _ 16 rfl rfl KK ?_
      refine wpAnyM.one (i := 11) (by kernel_rfl) rfl (fun KQ hK => ?_)
      go_simp
      refine CM.mono ?_
      rintro e w2 ⟨rfl, rfl⟩
      go_simp
      refine hK.out _ _ (fun _ => KK) ?_
      clear hK KQ
      (try simp only [Act.put, List.setIfInBounds_toArray, List.set_cons_zero, List.set_cons_succ])
      refine tk1 12 _ 18 rfl rfl KK ?_
      refine tk1 13 _ 19 rfl rfl KK ?_
      refine wpAnyM.one (i := 14) (by kernel_rfl) rfl (fun KQ hK => ?_)
      go_simp
      refine hK.out _ _ (fun h => absurd h (by decide)) ?_
      clear hK KQ
      (try simp only [Act.put, List.setIfInBounds_toArray, List.set_cons_zero, List.set_cons_succ])
      refine wpAnyM.done (by kernel_rfl) ?_ _
      go_wp2_with fail
      go_meet
      case rel => exact ⟨by rw [hA], 1, rfl⟩
  case rest =>
    obtain ⟨rfl, n0, rfl⟩ := hcut
    obtain ⟨th, a2, s2, o2⟩ := look_set HX.out.1 (X0.out.2.1.keep (Step.rf.drewN (K := No) n0) (fun h => h)) (X0.out.2.2.2.1.drewN n0) hk0 HX.out.2.1
    have v1 := X0.out.1.keep (Step.rf.drewN (K := No) n0) (fun h => h)
    have hnk : ¬ One k 0 := fun (e : 0 = k) => hk0 e.symm
    have v2 := v1.keep s2 hnk
    have hKl : (bC v.key).length = 4 := by rw [bC_len, HX.out.2.1]
    have hi0 : (Tryz.prog.info? 91).map (·.size) = some (bC v.key).length := by rw [info_key, hKl]
    have hi1 : (Tryz.prog.info? 91).map (·.size) = some (bC v.key).toArray.size := by rw [info_key]; simp [hKl]
    have hB2 := all_oneCell_toArray (bC_one v.key)
    have z0 := v2.get (i := 4) (u := .int .i64 v.power) (by unfold valC; rw [List.getElem?_append_right (by rw [hKl]; omega), hKl]; rfl)
    have z1 := a2.get (i := 5) (u := .int .i64 least) (by unfold lookC; rw [List.getElem?_append_right (by rw [hKl]; omega), hKl]; rfl)
    have z2 := a2.get (i := 6) (u := .int .i64 most) (by unfold lookC; rw [List.getElem?_append_right (by rw [hKl]; omega), hKl]; rfl)
    obtain ⟨W2, hW2⟩ : ∃ W2, ((W0.drewN n0).setCells xb 0 (bC v.key)).setCell ⟨xb, 4, none⟩ (.bool true) = W2 := ⟨_, rfl⟩
    rw [hW2] at a2 s2 o2 z0 z1 z2
    have hb0 : ((W0.drewN n0).setCells xb 0 (bC v.key)).cell? ⟨xb, 4, none⟩ = some (.bool begun) := by
      rw [World.cell?_setCells_out xb (bC v.key) 0 _ ⟨xb, 4, none⟩ (fun _ _ => .inr (by show 0 + (bC v.key).length ≤ 4; rw [hKl]; omega))]
      exact y4
    have hbf : ((W0.drewN n0).setCells xb 0 (bC v.key)).frozen? ⟨xb, 4, none⟩ = false := (Ok.setCells (b := xb) (bC v.key) 0 _ (X0.out.2.2.2.1.drewN n0)).soft xb 4 (by rw [X0.out.2.1.col]; exact hk0)
    obtain ⟨KV, hKV⟩ : ∃ KV, bC v.key = KV := ⟨_, rfl⟩
    have SL := Lib.hid (And.intro v1.pre.cells (And.intro hi0 (And.intro th (And.intro hi1 hB2))))
    rw [hKV] at SL hW2 hb0 hbf
    have X2 := Lib.hid (And.intro a2 (And.intro ((X0.out.2.2.1.drewN n0).ofNo.trans s2) (And.intro o2 X0.out.2.2.2.2)))
    clear a2 s2 o2 v1 v2 hKl hi0 hi1 hB2 th hKV X0
    go_upto_if 28 with (first | (refine wpList_load_mid rfl 91 _ rfl vb 0 rfl KV _ SL.out.1 Tryz.underlying91 rfl SL.out.2.1 ?_) | (refine wpList_store_mid rfl 91 _ _ rfl xb 0 KV.toArray rfl rfl SL.out.2.2.1 SL.out.2.2.2.1 SL.out.2.2.2.2 ?_))
    (try rw [hW2])
    clear hb0 hbf SL y4 hW2
    rcases Ah with _ | _
    · obtain ⟨P, hP⟩ : ∃ P, v.power = P := ⟨_, rfl⟩
      have HP := Lib.hid hP
      rw [hP] at z0
      go_wp2_with fail
      go_cut [30] from 31 to 46 (fun v5 wr => v5 = .bool (decide (P < least) || decide (most < P)) ∧ ∃ n, wr = W2.drewN n)
      case first =>
        have KK : (fun W : World => W.cell? ⟨vb, 4, none⟩ = some (.int .i64 P) ∧ W.cell? ⟨xb, 5, none⟩ = some (.int .i64 least) ∧ W.cell? ⟨xb, 6, none⟩ = some (.int .i64 most)) W2.drew := ⟨z0, z1, z2⟩
        by_cases hpl : P < least
        · skip
          refine region_planM (fun W => W.cell? ⟨vb, 4, none⟩ = some (.int .i64 P) ∧ W.cell? ⟨xb, 5, none⟩ = some (.int .i64 least) ∧ W.cell? ⟨xb, 6, none⟩ = some (.int .i64 most)) (fun _ => true) (by kernel_rfl) ?_
          refine tk3 0 _ 31 rfl rfl KK ?_
          refine tk3 1 _ 32 rfl rfl KK ?_
          refine tk3 2 _ 33 rfl rfl KK ?_
          refine tk3 3 _ 34 rfl rfl KK ?_
          refine tk3 4 _ 35 rfl rfl KK ?_
          refine tk3 5 _ 36 rfl rfl KK ?_
          refine tk3 6 _ 37 rfl rfl KK ?_
          refine tk3 7 _ 38 rfl rfl KK ?_
          refine tku 8 _ 39 rfl rfl KK ?_
          refine tku 9 _ 40 rfl rfl KK ?_
          refine tku 10 _ 41 rfl rfl KK ?_
          refine tku 11 _ 42 rfl rfl KK ?_
          refine tku 12 _ 43 rfl rfl KK ?_
          refine tku 13 _ 44 rfl rfl KK ?_
          refine tku 14 _ 45 rfl rfl KK ?_
          refine tk3 15 _ 46 rfl rfl KK ?_
          refine wpAnyM.one (i := 16) (by kernel_rfl) rfl (fun KQ hK => ?_)
          go_simp
          refine hK.out _ _ (fun _ => KK) ?_
          clear hK KQ
          (try simp only [Act.put, List.setIfInBounds_toArray, List.set_cons_zero, List.set_cons_succ])
          refine wpAnyM.done (by kernel_rfl) ?_ _
          go_wp2_with fail
          go_meet
          case rel => exact ⟨by simp [hpl], 1, rfl⟩
        · by_cases hpm : most < P
          · skip
            refine region_planM (fun W => W.cell? ⟨vb, 4, none⟩ = some (.int .i64 P) ∧ W.cell? ⟨xb, 5, none⟩ = some (.int .i64 least) ∧ W.cell? ⟨xb, 6, none⟩ = some (.int .i64 most)) (fun _ => true) (by kernel_rfl) ?_
            refine tk3 0 _ 31 rfl rfl KK ?_
            refine tk3 1 _ 32 rfl rfl KK ?_
            refine tk3 2 _ 33 rfl rfl KK ?_
            refine tk3 3 _ 34 rfl rfl KK ?_
            refine tk3 4 _ 35 rfl rfl KK ?_
            refine tk3 5 _ 36 rfl rfl KK ?_
            refine tk3 6 _ 37 rfl rfl KK ?_
            refine tk3 7 _ 38 rfl rfl KK ?_
            refine tk3 8 _ 39 rfl rfl KK ?_
            refine tk3 9 _ 40 rfl rfl KK ?_
            refine tk3 10 _ 41 rfl rfl KK ?_
            refine tk3 11 _ 42 rfl rfl KK ?_
            refine tk3 12 _ 43 rfl rfl KK ?_
            refine tk3 13 _ 44 rfl rfl KK ?_
            refine tk3 14 _ 45 rfl rfl KK ?_
            refine tk3 15 _ 46 rfl rfl KK ?_
            refine wpAnyM.one (i := 16) (by kernel_rfl) rfl (fun KQ hK => ?_)
            go_simp
            refine hK.out _ _ (fun _ => KK) ?_
            clear hK KQ
            (try simp only [Act.put, List.setIfInBounds_toArray, List.set_cons_zero, List.set_cons_succ])
            refine wpAnyM.done (by kernel_rfl) ?_ _
            go_wp2_with fail
            go_meet
            case rel => exact ⟨by simp [hpl, hpm], 1, rfl⟩
          · skip
            refine region_planM (fun W => W.cell? ⟨vb, 4, none⟩ = some (.int .i64 P) ∧ W.cell? ⟨xb, 5, none⟩ = some (.int .i64 least) ∧ W.cell? ⟨xb, 6, none⟩ = some (.int .i64 most)) (fun _ => true) (by kernel_rfl) ?_
            refine tk3 0 _ 31 rfl rfl KK ?_
            refine tk3 1 _ 32 rfl rfl KK ?_
            refine tk3 2 _ 33 rfl rfl KK ?_
            refine tk3 3 _ 34 rfl rfl KK ?_
            refine tk3 4 _ 35 rfl rfl KK ?_
            refine tk3 5 _ 36 rfl rfl KK ?_
            refine tk3 6 _ 37 rfl rfl KK ?_
            refine tk3 7 _ 38 rfl rfl KK ?_
            refine tk3 8 _ 39 rfl rfl KK ?_
            refine tk3 9 _ 40 rfl rfl KK ?_
            refine tk3 10 _ 41 rfl rfl KK ?_
            refine tk3 11 _ 42 rfl rfl KK ?_
            refine tk3 12 _ 43 rfl rfl KK ?_
            refine tk3 13 _ 44 rfl rfl KK ?_
            refine tk3 14 _ 45 rfl rfl KK ?_
            refine tk3 15 _ 46 rfl rfl KK ?_
            refine wpAnyM.one (i := 16) (by kernel_rfl) rfl (fun KQ hK => ?_)
            go_simp
            refine hK.out _ _ (fun _ => KK) ?_
            clear hK KQ
            (try simp only [Act.put, List.setIfInBounds_toArray, List.set_cons_zero, List.set_cons_succ])
            refine wpAnyM.done (by kernel_rfl) ?_ _
            go_wp2_with fail
            go_meet
            case rel => exact ⟨by simp [hpl, hpm], 1, rfl⟩
      case rest =>
        obtain ⟨rfl, n1, rfl⟩ := hcut
        have hat : atV (lastO begun last) least most v = if (decide (P < least) || decide (most < P)) = true then 3 else 0 := by
          unfold atV
          rw [X2.out.2.2.2, HP.out, if_neg (by decide)]
          simp only [Bool.or_eq_true, decide_eq_true_eq]
        obtain ⟨bb, hbb⟩ : ∃ b, (decide (P < least) || decide (most < P)) = b := ⟨_, rfl⟩
        rw [hbb] at hat ⊢
        have HAT := Lib.hid hat
        have X3 := Lib.hid (And.intro (X2.out.1.keep (Step.rf.drewN (K := No) n1) (fun h => h)) (And.intro (X2.out.2.1.drewN n1) (X2.out.2.2.1.drewN n1)))
        clear hat hbb X2
        rcases bb with _ | _
        · go_wp2_with fail
          go_ret
          exact ⟨by rw [HAT.out]; rfl, c, X3.out⟩
        · go_wp2_with fail
          go_ret
          exact ⟨by rw [HAT.out]; rfl, c, X3.out⟩
    · go_wp2_with fail
      go_ret
      exact ⟨by unfold atV; rw [if_pos X2.out.2.2.2]; rfl, c, X2.out.1, X2.out.2.1, X2.out.2.2.1⟩
end
end Go.Proofs.YtgcobbapaaihiaaGreat

set_option linter.unusedVariables false
set_option linter.unusedSimpArgs false
namespace Go.Proofs.YtgcobbapaaihiaaGreat
open Go.RowKit

/-- Words as cells. -/
def u32C (l : List Nat) : List Value := l.map fun (x : Nat) => Value.int .u32 (x : Int)
def Words (l : List Nat) (n : Nat) : Prop := l.length = n ∧ ∀ x ∈ l, x < 4294967296
theorem u32C_len (l : List Nat) : (u32C l).length = l.length := by simp [u32C]
theorem u32C_one (l : List Nat) : ∀ v ∈ u32C l, v.oneCell' = true := by
  intro v hv; simp [u32C] at hv; obtain ⟨x, _, rfl⟩ := hv; rfl

def beginL : List Nat := [0x6a09e667, 0xbb67ae85, 0x3c6ef372, 0xa54ff53a, 0x510e527f, 0x9b05688c, 0x1f83d9ab, 0x5be0cd19]
theorem info_words : (Tryz.prog.info? 271).map (·.size) = some 8 := by kernel_rfl

section
variable {c : Col} {w : World}

set_option maxRecDepth 100000 in
theorem begin_any (hok : Ok c w) :
    Calls Tryz.prog 202 #[] w fun r w' => r = .returned (.agg (u32C beginL).toArray) ∧ ∃ c', Step No c w c' w' ∧ Ok c' w' := by
  obtain ⟨a0, o0, s0⟩ := newAt hok (u32C beginL) 271 0
  have HX := Lib.hid (And.intro a0 (And.intro s0 o0))
  have hi := Lib.hid info_words
  clear a0 o0 s0 hok
  go_enter Tryz.func202, Tryz.ntmps202
  go_wp2_with fail
  exact bodyPost_ret (results_cell_mid rfl _ _ w.heap.size 0 (u32C beginL) _ rfl HX.out.1.cells Tryz.underlying271 rfl hi.out) rfl ⟨rfl, _, HX.out.2⟩
end
end Go.Proofs.YtgcobbapaaihiaaGreat

set_option linter.unusedVariables false
set_option linter.unusedSimpArgs false
namespace Go.Proofs.YtgcobbapaaihiaaGreat
open Go.RowKit

theorem rot_any (x : Nat) (hx : x < 4294967296) (k : Int) (hk : k = -16 ∨ k = -12 ∨ k = -8 ∨ k = -7) (w : World) :
    Calls Tryz.prog 219 #[.int .u32 x, .int .i64 k] w fun r w' => (∃ y : Nat, y < 4294967296 ∧ r = .returned (.int .u32 y)) ∧ w' = w := by
  rcases hk with rfl | rfl | rfl | rfl
  · have hb : bits BinOp.and IntKind.u64 (IntKind.u64.wrap (-16)) 31 = 16 := by kernel_rfl
    go_enter Tryz.func219, Tryz.ntmps219
    go_wp2
    go_ret
    have h := u32_or_nat (x * 65536 % 4294967296) (x / 65536) (by omega) (by omega)
    refine ⟨⟨_, Nat.or_lt_two_pow (n := 32) (x := x * 65536 % 4294967296) (y := x / 65536) (by omega) (by omega), ?_⟩, rfl⟩
    rw [← h]
    rfl
  · have hb : bits BinOp.and IntKind.u64 (IntKind.u64.wrap (-12)) 31 = 20 := by kernel_rfl
    go_enter Tryz.func219, Tryz.ntmps219
    go_wp2
    go_ret
    have h := u32_or_nat (x * 1048576 % 4294967296) (x / 4096) (by omega) (by omega)
    refine ⟨⟨_, Nat.or_lt_two_pow (n := 32) (x := x * 1048576 % 4294967296) (y := x / 4096) (by omega) (by omega), ?_⟩, rfl⟩
    rw [← h]
    rfl
  · have hb : bits BinOp.and IntKind.u64 (IntKind.u64.wrap (-8)) 31 = 24 := by kernel_rfl
    go_enter Tryz.func219, Tryz.ntmps219
    go_wp2
    go_ret
    have h := u32_or_nat (x * 16777216 % 4294967296) (x / 256) (by omega) (by omega)
    refine ⟨⟨_, Nat.or_lt_two_pow (n := 32) (x := x * 16777216 % 4294967296) (y := x / 256) (by omega) (by omega), ?_⟩, rfl⟩
    rw [← h]
    rfl
  · have hb : bits BinOp.and IntKind.u64 (IntKind.u64.wrap (-7)) 31 = 25 := by kernel_rfl
    go_enter Tryz.func219, Tryz.ntmps219
    go_wp2
    go_ret
    have h := u32_or_nat (x * 33554432 % 4294967296) (x / 128) (by omega) (by omega)
    refine ⟨⟨_, Nat.or_lt_two_pow (n := 32) (x := x * 33554432 % 4294967296) (y := x / 128) (by omega) (by omega), ?_⟩, rfl⟩
    rw [← h]
    rfl
end Go.Proofs.YtgcobbapaaihiaaGreat
