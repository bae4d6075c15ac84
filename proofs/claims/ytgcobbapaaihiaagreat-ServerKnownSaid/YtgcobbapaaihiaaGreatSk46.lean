/- ServerKnown, part 46: lemmas, each with its own conditions. -/
import Derived.Test.YtgcobbapaaihiaaGreatSk03
import Derived.Test.YtgcobbapaaihiaaGreatSk45
import Derived.Laws.MakeOwn
set_option linter.unusedVariables false
set_option linter.unusedSimpArgs false
namespace Go.Proofs.YtgcobbapaaihiaaGreat
open Go.RowKit

section
variable {c : Col} {w : World}

theorem srvNew (hok : Ok c w) (v : Value) {xss : List (List Value)} {ms : List Int} (hr : Rds (TInt .i64) c 0 w xss ms) {cs : Array Value} (hcs : xss.flatten.toArray = cs) {n : Nat} (hn : ms.length = n) (hm : n ≤ 1000) (d s : Int) :
    Ok c ((w.alloc (.cells cs 3)).alloc (.cells #[v, .slice none 0 0, .slice (some ⟨w.heap.size, 0, none⟩) n n, .int .i64 d, .int .i64 s] 25)) ∧
    Step No c w c ((w.alloc (.cells cs 3)).alloc (.cells #[v, .slice none 0 0, .slice (some ⟨w.heap.size, 0, none⟩) n n, .int .i64 d, .int .i64 s] 25)) ∧
    At c ((w.alloc (.cells cs 3)).alloc (.cells #[v, .slice none 0 0, .slice (some ⟨w.heap.size, 0, none⟩) n n, .int .i64 d, .int .i64 s] 25)) (w.heap.size + 1) 0 [v, .slice none 0 0, .slice (some ⟨w.heap.size, 0, none⟩) n n, .int .i64 d, .int .i64 s] ∧
    Sl (TInt .i64) c 0 0 ((w.alloc (.cells cs 3)).alloc (.cells #[v, .slice none 0 0, .slice (some ⟨w.heap.size, 0, none⟩) n n, .int .i64 d, .int .i64 s] 25)) (.slice (some ⟨w.heap.size, 0, none⟩) n n) ms := by
  obtain ⟨o1, s1, st1⟩ := put_list (T := TInt .i64) hok 0 hr hcs hn hm 3
  have a2 := At.new0 o1 [v, .slice none 0 0, .slice (some ⟨w.heap.size, 0, none⟩) n n, .int .i64 d, .int .i64 s] 25
  rw [World.size_alloc] at a2
  have st2 : Step No c (w.alloc (.cells cs 3)) c ((w.alloc (.cells cs 3)).alloc (.cells #[v, .slice none 0 0, .slice (some ⟨w.heap.size, 0, none⟩) n n, .int .i64 d, .int .i64 s] 25)) := Step.refl.alloc _
  exact ⟨o1.alloc _, st1.trans st2, a2, s1.kn st2⟩
theorem rds_rep : ∀ n, Rds (TInt .i64) c 0 w (List.replicate n [.int .i64 0]) (List.replicate n 0)
  | 0 => trivial
  | n + 1 => ⟨⟨rfl, ⟨by decide, by decide⟩⟩, rds_rep n⟩
theorem make65 (W : World) : (Instr.makeSlice 23 (.int .i64 65) (.int .i64 65)).run Tryz.prog W = .ok (.slice (some ⟨W.heap.size, 0, none⟩) 65 65) (W.alloc (.cells (List.replicate 65 [Value.int .i64 0]).flatten.toArray 3)) := by
  have hi : (Tryz.prog.info? 3).map (fun i => (i.zero, i.size, i.bytes)) = some (some (.int .i64 0), 1, 8) := by kernel_rfl
  cases hq : Tryz.prog.info? 3 with
  | none => rw [hq] at hi; cases hi
  | some i =>
    rw [hq] at hi
    simp only [Option.map_some, Option.some.injEq, Prod.mk.injEq] at hi
    have r := run_make W 23 3 i (.int .i64 0) Tryz.underlying23 hq hi.1 .i64 .i64 65 65 (by decide) (by decide) (by rw [hi.2.2]; decide) (by decide)
    have hm : madeCells (Value.int .i64 0).cells (Int.toNat 65 * 1) = (List.replicate 65 [Value.int .i64 0]).flatten.toArray := by first | kernel_rfl | decide
    rw [r, hi.2.1, hm]
    rfl
theorem info_srv : (Tryz.prog.info? 25).map (·.size) = some 5 := by kernel_rfl

set_option maxRecDepth 100000 in
set_option maxHeartbeats 6400000 in
theorem known29_any (hok : Ok c w) :
    Calls Tryz.prog 4 #[] w fun r w' => r = .returned (.bool true) ∧ ∃ c', Step No c w c' w' ∧ Ok c' w' := by
  have TH := three_any hok
  clear hok
  go_enter Tryz.func4, Tryz.ntmps4
  go_wp2_with fail
  with_reducible refine TH.mono ?_
  rintro e w1 ⟨v, sv, rfl, c1, L, hL, sl, s1, o1⟩
  obtain ⟨b1, b2, b3, rfl, h1, h2, h3⟩ := hL.three
  obtain ⟨g, off, vn, rfl, hcap, hcm⟩ := sl.some (by simp)
  have hl3 : [b1, b2, b3].length = 3 := rfl
  rw [hl3] at sl hcap ⊢
  have i2 : IntKind.i64.has 2 := ⟨by decide, by decide⟩
  have i3 : IntKind.i64.has 3 := ⟨by decide, by decide⟩
  have i5 : IntKind.i64.has 5 := ⟨by decide, by decide⟩
  have i8 : IntKind.i64.has 8 := ⟨by decide, by decide⟩
  have i9 : IntKind.i64.has 9 := ⟨by decide, by decide⟩
  have i0 : IntKind.i64.has 0 := ⟨by decide, by decide⟩
  obtain ⟨n0, hn0⟩ : ∃ n, w1.heap.size = n := ⟨_, rfl⟩
  obtain ⟨oA, sA, aA, mA⟩ := srvNew o1 (.slice (some ⟨g, off, none⟩) 3 vn) (xss := [[.int .i64 2], [.int .i64 3]]) (ms := [2, 3]) ⟨⟨rfl, i2⟩, ⟨rfl, i3⟩, trivial⟩ (cs := #[.int .i64 2, .int .i64 3]) rfl (n := 2) rfl (by decide) 3 5
  rw [hn0] at oA sA aA mA
  obtain ⟨oB, sB, aB, mB⟩ := srvNew oA (.slice (some ⟨g, off, none⟩) 3 vn) (xss := [[.int .i64 5]]) (ms := [5]) ⟨⟨rfl, i5⟩, trivial⟩ (cs := #[.int .i64 5]) rfl (n := 1) rfl (by decide) 0 0
  simp only [World.size_alloc, hn0] at oB sB aB mB
  obtain ⟨oC, sC, aC, mC⟩ := srvNew oB (.slice (some ⟨g, off, none⟩) 3 vn) (xss := [[.int .i64 9]]) (ms := [9]) ⟨⟨rfl, i9⟩, trivial⟩ (cs := #[.int .i64 9]) rfl (n := 1) rfl (by decide) 0 0
  simp only [World.size_alloc, hn0] at oC sC aC mC
  obtain ⟨oD, sD, aD, mD⟩ := srvNew oC (.slice (some ⟨g, off, none⟩) 3 vn) (xss := [[.int .i64 8]]) (ms := [8]) ⟨⟨rfl, i8⟩, trivial⟩ (cs := #[.int .i64 8]) rfl (n := 1) rfl (by decide) 0 0
  simp only [World.size_alloc, hn0] at oD sD aD mD
  have aA := ((aA.kn sB).kn sC).kn sD
  have mA := ((mA.kn sB).kn sC).kn sD
  have aB := (aB.kn sC).kn sD
  have mB := (mB.kn sC).kn sD
  have aC := aC.kn sD
  have mC := mC.kn sD
  have slD := (((sl.kn sA).kn sB).kn sC).kn sD
  have stD := (((s1.trans sA).trans sB).trans sC).trans sD
  obtain ⟨WK, hWK⟩ : ∃ W, ((((((((w1.alloc (.cells #[.int .i64 2, .int .i64 3] 3)).alloc (.cells #[.slice (some ⟨g, off, none⟩) 3 vn, .slice none 0 0, .slice (some ⟨n0, 0, none⟩) 2 2, .int .i64 3, .int .i64 5] 25)).alloc (.cells #[.int .i64 5] 3)).alloc (.cells #[.slice (some ⟨g, off, none⟩) 3 vn, .slice none 0 0, .slice (some ⟨n0 + 1 + 1, 0, none⟩) 1 1, .int .i64 0, .int .i64 0] 25)).alloc (.cells #[.int .i64 9] 3)).alloc (.cells #[.slice (some ⟨g, off, none⟩) 3 vn, .slice none 0 0, .slice (some ⟨n0 + 1 + 1 + 1 + 1, 0, none⟩) 1 1, .int .i64 0, .int .i64 0] 25)).alloc (.cells #[.int .i64 8] 3)).alloc (.cells #[.slice (some ⟨g, off, none⟩) 3 vn, .slice none 0 0, .slice (some ⟨n0 + 1 + 1 + 1 + 1 + 1 + 1, 0, none⟩) 1 1, .int .i64 0, .int .i64 0] 25)) = W := ⟨_, rfl⟩
  rw [hWK] at aA mA aB mB aC mC aD mD slD stD oD
  have sd : Step No c1 WK c1 WK.drew := Step.rf.drewN 1
  have okk : Ok c1 WK.drew := oD.drewN 1
  have KN : ∀ (c2 : Col) (w2 : World), Step No c1 WK c2 w2 → (fun W : World => (Instr.loadAt 25 (.pointer (some ⟨n0 + 1, 0, none⟩))).run Tryz.prog W = .ok (.agg #[.slice (some ⟨g, off, none⟩) 3 vn, .slice none 0 0, .slice (some ⟨n0, 0, none⟩) 2 2, .int .i64 3, .int .i64 5]) W ∧ (Instr.loadAt 25 (.pointer (some ⟨n0 + 1 + 1 + 1, 0, none⟩))).run Tryz.prog W = .ok (.agg #[.slice (some ⟨g, off, none⟩) 3 vn, .slice none 0 0, .slice (some ⟨n0 + 1 + 1, 0, none⟩) 1 1, .int .i64 0, .int .i64 0]) W ∧ (Instr.loadAt 25 (.pointer (some ⟨n0 + 1 + 1 + 1 + 1 + 1, 0, none⟩))).run Tryz.prog W = .ok (.agg #[.slice (some ⟨g, off, none⟩) 3 vn, .slice none 0 0, .slice (some ⟨n0 + 1 + 1 + 1 + 1, 0, none⟩) 1 1, .int .i64 0, .int .i64 0]) W ∧ (Instr.loadAt 25 (.pointer (some ⟨n0 + 1 + 1 + 1 + 1 + 1 + 1 + 1, 0, none⟩))).run Tryz.prog W = .ok (.agg #[.slice (some ⟨g, off, none⟩) 3 vn, .slice none 0 0, .slice (some ⟨n0 + 1 + 1 + 1 + 1 + 1 + 1, 0, none⟩) 1 1, .int .i64 0, .int .i64 0]) W) w2 :=
    fun _ _ h2 => ⟨(aA.kn h2).ld (ty := 25) Tryz.underlying25 rfl info_srv, (aB.kn h2).ld (ty := 25) Tryz.underlying25 rfl info_srv, (aC.kn h2).ld (ty := 25) Tryz.underlying25 rfl info_srv, (aD.kn h2).ld (ty := 25) Tryz.underlying25 rfl info_srv⟩
  have SA : ∀ (c2 : Col) (w2 : World), Step No c1 WK c2 w2 → (srvK [b1, b2, b3] [2, 3] 3 5).At c2 0 w2 (.slice (some ⟨g, off, none⟩) 3 vn) (.slice none 0 0) (.slice (some ⟨n0, 0, none⟩) 2 2) := fun _ _ h2 => srvAt (slD.kn h2) (by simp) (mA.kn h2) (by simp) i3 i5
  have SB : ∀ (c2 : Col) (w2 : World), Step No c1 WK c2 w2 → (srvK [b1, b2, b3] [5] 0 0).At c2 0 w2 (.slice (some ⟨g, off, none⟩) 3 vn) (.slice none 0 0) (.slice (some ⟨n0 + 1 + 1, 0, none⟩) 1 1) := fun _ _ h2 => srvAt (slD.kn h2) (by simp) (mB.kn h2) (by simp) i0 i0
  have SC : ∀ (c2 : Col) (w2 : World), Step No c1 WK c2 w2 → (srvK [b1, b2, b3] [9] 0 0).At c2 0 w2 (.slice (some ⟨g, off, none⟩) 3 vn) (.slice none 0 0) (.slice (some ⟨n0 + 1 + 1 + 1 + 1, 0, none⟩) 1 1) := fun _ _ h2 => srvAt (slD.kn h2) (by simp) (mC.kn h2) (by simp) i0 i0
  have SD : ∀ (c2 : Col) (w2 : World), Step No c1 WK c2 w2 → (srvK [b1, b2, b3] [8] 0 0).At c2 0 w2 (.slice (some ⟨g, off, none⟩) 3 vn) (.slice none 0 0) (.slice (some ⟨n0 + 1 + 1 + 1 + 1 + 1 + 1, 0, none⟩) 1 1) := fun _ _ h2 => srvAt (slD.kn h2) (by simp) (mD.kn h2) (by simp) i0 i0
  have KK := KN _ _ sd
  have BASE := Lib.hid (And.intro stD (And.intro slD (And.intro h1 (And.intro h2 h3))))
  have SS := Lib.hid (And.intro SA (And.intro SB (And.intro SC SD)))
  have e1 := Lib.hid h1.height
  have e2 := Lib.hid h2.height
  have e3 := Lib.hid h3.height
  have PK := Lib.hid (And.intro h1 (And.intro h2 h3))
  have KNH := Lib.hid KN
  have HWK := Lib.hid hWK
  have AAH := Lib.hid aA
  clear TH hL sl s1 o1 h1 h2 h3 oA sA aA mA oB sB aB mB oC sC aC mC aD mD sD oD slD stD SA SB SC SD i2 i3 i5 i8 i9 i0 hl3 hcap hcm KN hWK
  go_wp2_with fail
  (try rw [HWK.out])
  refine region_planM (fun W => (Instr.loadAt 25 (.pointer (some ⟨n0 + 1, 0, none⟩))).run Tryz.prog W = .ok (.agg #[.slice (some ⟨g, off, none⟩) 3 vn, .slice none 0 0, .slice (some ⟨n0, 0, none⟩) 2 2, .int .i64 3, .int .i64 5]) W ∧ (Instr.loadAt 25 (.pointer (some ⟨n0 + 1 + 1 + 1, 0, none⟩))).run Tryz.prog W = .ok (.agg #[.slice (some ⟨g, off, none⟩) 3 vn, .slice none 0 0, .slice (some ⟨n0 + 1 + 1, 0, none⟩) 1 1, .int .i64 0, .int .i64 0]) W ∧ (Instr.loadAt 25 (.pointer (some ⟨n0 + 1 + 1 + 1 + 1 + 1, 0, none⟩))).run Tryz.prog W = .ok (.agg #[.slice (some ⟨g, off, none⟩) 3 vn, .slice none 0 0, .slice (some ⟨n0 + 1 + 1 + 1 + 1, 0, none⟩) 1 1, .int .i64 0, .int .i64 0]) W ∧ (Instr.loadAt 25 (.pointer (some ⟨n0 + 1 + 1 + 1 + 1 + 1 + 1 + 1, 0, none⟩))).run Tryz.prog W = .ok (.agg #[.slice (some ⟨g, off, none⟩) 3 vn, .slice none 0 0, .slice (some ⟨n0 + 1 + 1 + 1 + 1 + 1 + 1, 0, none⟩) 1 1, .int .i64 0, .int .i64 0]) W) (fun _ => true) (by kernel_rfl) ?_
  refine wpAnyM.takeT (i := 0) (v := _) (some 27) rfl rfl (by kernel_rfl) (by kernel_rfl) (by kernel_rfl) (by kernel_rfl) (by kernel_rfl) (fun _ _ _ h => h) (Or.inl ⟨by rfl, fun W hW => by obtain ⟨q0, q1, q2, q3⟩ := hW; exact y_load 25 q0 (.tmp 3) rfl rfl⟩) KK ?_
  (try simp only [Act.put, List.setIfInBounds_toArray, List.set_cons_zero, List.set_cons_succ])
  refine wpAnyM.one (i := 1) (by kernel_rfl) rfl (fun KQ hK => ?_)
  go_simp
  refine (askL_any okk 7 1 (by decide) (by decide) 0).mono ?_
  rintro e wC ⟨vk, rfl, cC, sk, sC, okk⟩
  have sd := sd.trans sC
  have KK := KNH.out _ _ sd
  obtain ⟨ka, kn, rfl, _⟩ := sk.form
  have SK := Lib.hid sk
  clear sC sk
  go_simp
  refine hK.out _ _ (fun _ => KK) ?_
  clear hK KQ
  (try simp only [Act.put, List.setIfInBounds_toArray, List.set_cons_zero, List.set_cons_succ])
  refine wpAnyM.one (i := 2) (by kernel_rfl) rfl (fun KQ hK => ?_)
  go_simp
  refine (silent_any okk (SS.out.1 _ _ sd) 0 SK.out (decAsk (id := 7) (h := 1) (by decide) (by decide)) (id := 7) (h := 1) (fun _ => ⟨fun M hM => hM, by decide, by decide⟩) k1).mono ?_
  rintro e wC ⟨rfl, cC, sC, okk⟩
  have sd := sd.trans sC
  have KK := KNH.out _ _ sd
  clear sC SK
  go_simp
  refine hK.out _ _ (fun _ => KK) ?_
  clear hK KQ
  (try simp only [Act.put, List.setIfInBounds_toArray, List.set_cons_zero, List.set_cons_succ])
  refine wpAnyM.takeT (i := 3) (v := _) (some 30) rfl rfl (by kernel_rfl) (by kernel_rfl) (by kernel_rfl) (by kernel_rfl) (by kernel_rfl) (fun _ _ _ h => h) (Or.inl ⟨by rfl, fun W hW => by first | (obtain ⟨q0, q1, q2, q3⟩ := hW; go_simp <;> rfl) | (obtain ⟨q0, q1, q2, q3⟩ := hW; go_simp; done)⟩) KK ?_
  (try simp only [Act.put, List.setIfInBounds_toArray, List.set_cons_zero, List.set_cons_succ])
  refine wpAnyM.takeT (i := 4) (v := _) (some 31) rfl rfl (by kernel_rfl) (by kernel_rfl) (by kernel_rfl) (by kernel_rfl) (by kernel_rfl) (fun _ _ _ h => h) (Or.inl ⟨by rfl, fun W hW => by obtain ⟨q0, q1, q2, q3⟩ := hW; exact y_load 25 q0 (.tmp 3) rfl rfl⟩) KK ?_
  (try simp only [Act.put, List.setIfInBounds_toArray, List.set_cons_zero, List.set_cons_succ])
  refine wpAnyM.one (i := 5) (by kernel_rfl) rfl (fun KQ hK => ?_)
  go_simp
  have TD := told_yes okk (SS.out.1 _ _ sd) 1 1 7 1 8 (by decide) (by decide) (by omega) PK.out.1 (k2 PK.out.1 PK.out.2.1 PK.out.2.2).1 (k2 PK.out.1 PK.out.2.1 PK.out.2.2).2
  rw [e1.out] at TD
  refine TD.mono ?_
  rintro e wC ⟨rfl, cC, sC, okk⟩
  have sd := sd.trans sC
  have KK := KNH.out _ _ sd
  clear sC TD
  go_simp
  refine hK.out _ _ (fun _ => KK) ?_
  clear hK KQ
  (try simp only [Act.put, List.setIfInBounds_toArray, List.set_cons_zero, List.set_cons_succ])
  refine wpAnyM.takeT (i := 6) (v := _) (some 33) rfl rfl (by kernel_rfl) (by kernel_rfl) (by kernel_rfl) (by kernel_rfl) (by kernel_rfl) (fun _ _ _ h => h) (Or.inl ⟨by rfl, fun W hW => by first | (obtain ⟨q0, q1, q2, q3⟩ := hW; go_simp <;> rfl) | (obtain ⟨q0, q1, q2, q3⟩ := hW; go_simp; done)⟩) KK ?_
  (try simp only [Act.put, List.setIfInBounds_toArray, List.set_cons_zero, List.set_cons_succ])
  refine wpAnyM.takeT (i := 7) (v := _) (some 34) rfl rfl (by kernel_rfl) (by kernel_rfl) (by kernel_rfl) (by kernel_rfl) (by kernel_rfl) (fun _ _ _ h => h) (Or.inl ⟨by rfl, fun W hW => by first | (obtain ⟨q0, q1, q2, q3⟩ := hW; go_simp <;> rfl) | (obtain ⟨q0, q1, q2, q3⟩ := hW; go_simp; done)⟩) KK ?_
  (try simp only [Act.put, List.setIfInBounds_toArray, List.set_cons_zero, List.set_cons_succ])
  refine wpAnyM.takeT (i := 8) (v := _) (some 35) rfl rfl (by kernel_rfl) (by kernel_rfl) (by kernel_rfl) (by kernel_rfl) (by kernel_rfl) (fun _ _ _ h => h) (Or.inl ⟨by rfl, fun W hW => by obtain ⟨q0, q1, q2, q3⟩ := hW; exact y_load 25 q0 (.tmp 3) rfl rfl⟩) KK ?_
  (try simp only [Act.put, List.setIfInBounds_toArray, List.set_cons_zero, List.set_cons_succ])
  refine wpAnyM.one (i := 9) (by kernel_rfl) rfl (fun KQ hK => ?_)
  go_simp
  refine (askL_any okk 7 1 (by decide) (by decide) 0).mono ?_
  rintro e wC ⟨vk, rfl, cC, sk, sC, okk⟩
  have sd := sd.trans sC
  have KK := KNH.out _ _ sd
  obtain ⟨ka, kn, rfl, _⟩ := sk.form
  have SK := Lib.hid sk
  clear sC sk
  go_simp
  refine hK.out _ _ (fun _ => KK) ?_
  clear hK KQ
  (try simp only [Act.put, List.setIfInBounds_toArray, List.set_cons_zero, List.set_cons_succ])
  refine wpAnyM.one (i := 10) (by kernel_rfl) rfl (fun KQ hK => ?_)
  go_simp
  refine (silent_any okk (SS.out.1 _ _ sd) 2 SK.out (decAsk (id := 7) (h := 1) (by decide) (by decide)) (id := 7) (h := 1) (fun _ => ⟨fun M hM => hM, by decide, by decide⟩) k3).mono ?_
  rintro e wC ⟨rfl, cC, sC, okk⟩
  have sd := sd.trans sC
  have KK := KNH.out _ _ sd
  clear sC SK
  go_simp
  refine hK.out _ _ (fun _ => KK) ?_
  clear hK KQ
  (try simp only [Act.put, List.setIfInBounds_toArray, List.set_cons_zero, List.set_cons_succ])
  refine wpAnyM.takeT (i := 11) (v := _) (some 38) rfl rfl (by kernel_rfl) (by kernel_rfl) (by kernel_rfl) (by kernel_rfl) (by kernel_rfl) (fun _ _ _ h => h) (Or.inl ⟨by rfl, fun W hW => by first | (obtain ⟨q0, q1, q2, q3⟩ := hW; go_simp <;> rfl) | (obtain ⟨q0, q1, q2, q3⟩ := hW; go_simp; done)⟩) KK ?_
  (try simp only [Act.put, List.setIfInBounds_toArray, List.set_cons_zero, List.set_cons_succ])
  refine wpAnyM.takeT (i := 12) (v := _) (some 39) rfl rfl (by kernel_rfl) (by kernel_rfl) (by kernel_rfl) (by kernel_rfl) (by kernel_rfl) (fun _ _ _ h => h) (Or.inl ⟨by rfl, fun W hW => by first | (obtain ⟨q0, q1, q2, q3⟩ := hW; go_simp <;> rfl) | (obtain ⟨q0, q1, q2, q3⟩ := hW; go_simp; done)⟩) KK ?_
  (try simp only [Act.put, List.setIfInBounds_toArray, List.set_cons_zero, List.set_cons_succ])
  refine wpAnyM.takeT (i := 13) (v := _) (some 40) rfl rfl (by kernel_rfl) (by kernel_rfl) (by kernel_rfl) (by kernel_rfl) (by kernel_rfl) (fun _ _ _ h => h) (Or.inl ⟨by rfl, fun W hW => by obtain ⟨q0, q1, q2, q3⟩ := hW; exact y_load 25 q1 (.tmp 4) rfl rfl⟩) KK ?_
  (try simp only [Act.put, List.setIfInBounds_toArray, List.set_cons_zero, List.set_cons_succ])
  refine wpAnyM.one (i := 14) (by kernel_rfl) rfl (fun KQ hK => ?_)
  go_simp
  have TD := told_yes okk (SS.out.2.1 _ _ sd) 0 2 7 3 0 (by decide) (by decide) (by omega) PK.out.2.2 (k4 PK.out.1 PK.out.2.1 PK.out.2.2).1 (k4 PK.out.1 PK.out.2.1 PK.out.2.2).2
  rw [e3.out] at TD
  refine TD.mono ?_
  rintro e wC ⟨rfl, cC, sC, okk⟩
  have sd := sd.trans sC
  have KK := KNH.out _ _ sd
  clear sC TD
  go_simp
  refine hK.out _ _ (fun _ => KK) ?_
  clear hK KQ
  (try simp only [Act.put, List.setIfInBounds_toArray, List.set_cons_zero, List.set_cons_succ])
  refine wpAnyM.takeT (i := 15) (v := _) (some 42) rfl rfl (by kernel_rfl) (by kernel_rfl) (by kernel_rfl) (by kernel_rfl) (by kernel_rfl) (fun _ _ _ h => h) (Or.inl ⟨by rfl, fun W hW => by first | (obtain ⟨q0, q1, q2, q3⟩ := hW; go_simp <;> rfl) | (obtain ⟨q0, q1, q2, q3⟩ := hW; go_simp; done)⟩) KK ?_
  (try simp only [Act.put, List.setIfInBounds_toArray, List.set_cons_zero, List.set_cons_succ])
  refine wpAnyM.takeT (i := 16) (v := _) (some 43) rfl rfl (by kernel_rfl) (by kernel_rfl) (by kernel_rfl) (by kernel_rfl) (by kernel_rfl) (fun _ _ _ h => h) (Or.inl ⟨by rfl, fun W hW => by first | (obtain ⟨q0, q1, q2, q3⟩ := hW; go_simp <;> rfl) | (obtain ⟨q0, q1, q2, q3⟩ := hW; go_simp; done)⟩) KK ?_
  (try simp only [Act.put, List.setIfInBounds_toArray, List.set_cons_zero, List.set_cons_succ])
  refine wpAnyM.takeT (i := 17) (v := _) (some 44) rfl rfl (by kernel_rfl) (by kernel_rfl) (by kernel_rfl) (by kernel_rfl) (by kernel_rfl) (fun _ _ _ h => h) (Or.inl ⟨by rfl, fun W hW => by obtain ⟨q0, q1, q2, q3⟩ := hW; exact y_load 25 q1 (.tmp 4) rfl rfl⟩) KK ?_
  (try simp only [Act.put, List.setIfInBounds_toArray, List.set_cons_zero, List.set_cons_succ])
  refine wpAnyM.one (i := 18) (by kernel_rfl) rfl (fun KQ hK => ?_)
  go_simp
  have TD := told_yes okk (SS.out.2.1 _ _ sd) 0 3 7 2 0 (by decide) (by decide) (by omega) PK.out.2.1 (k5 PK.out.1 PK.out.2.1 PK.out.2.2).1 (k5 PK.out.1 PK.out.2.1 PK.out.2.2).2
  rw [e2.out] at TD
  refine TD.mono ?_
  rintro e wC ⟨rfl, cC, sC, okk⟩
  have sd := sd.trans sC
  have KK := KNH.out _ _ sd
  clear sC TD
  go_simp
  refine hK.out _ _ (fun _ => KK) ?_
  clear hK KQ
  (try simp only [Act.put, List.setIfInBounds_toArray, List.set_cons_zero, List.set_cons_succ])
  refine wpAnyM.takeT (i := 19) (v := _) (some 46) rfl rfl (by kernel_rfl) (by kernel_rfl) (by kernel_rfl) (by kernel_rfl) (by kernel_rfl) (fun _ _ _ h => h) (Or.inl ⟨by rfl, fun W hW => by first | (obtain ⟨q0, q1, q2, q3⟩ := hW; go_simp <;> rfl) | (obtain ⟨q0, q1, q2, q3⟩ := hW; go_simp; done)⟩) KK ?_
  (try simp only [Act.put, List.setIfInBounds_toArray, List.set_cons_zero, List.set_cons_succ])
  refine wpAnyM.takeT (i := 20) (v := _) (some 47) rfl rfl (by kernel_rfl) (by kernel_rfl) (by kernel_rfl) (by kernel_rfl) (by kernel_rfl) (fun _ _ _ h => h) (Or.inl ⟨by rfl, fun W hW => by first | (obtain ⟨q0, q1, q2, q3⟩ := hW; go_simp <;> rfl) | (obtain ⟨q0, q1, q2, q3⟩ := hW; go_simp; done)⟩) KK ?_
  (try simp only [Act.put, List.setIfInBounds_toArray, List.set_cons_zero, List.set_cons_succ])
  refine wpAnyM.takeT (i := 21) (v := _) (some 48) rfl rfl (by kernel_rfl) (by kernel_rfl) (by kernel_rfl) (by kernel_rfl) (by kernel_rfl) (fun _ _ _ h => h) (Or.inl ⟨by rfl, fun W hW => by obtain ⟨q0, q1, q2, q3⟩ := hW; exact y_load 25 q2 (.tmp 5) rfl rfl⟩) KK ?_
  (try simp only [Act.put, List.setIfInBounds_toArray, List.set_cons_zero, List.set_cons_succ])
  refine wpAnyM.one (i := 22) (by kernel_rfl) rfl (fun KQ hK => ?_)
  go_simp
  have TD := told_yes okk (SS.out.2.2.1 _ _ sd) 0 1 8 1 0 (by decide) (by decide) (by omega) PK.out.1 (k6 PK.out.1 PK.out.2.1 PK.out.2.2).1 (k6 PK.out.1 PK.out.2.1 PK.out.2.2).2
  rw [e1.out] at TD
  refine TD.mono ?_
  rintro e wC ⟨rfl, cC, sC, okk⟩
  have sd := sd.trans sC
  have KK := KNH.out _ _ sd
  clear sC TD
  go_simp
  refine hK.out _ _ (fun _ => KK) ?_
  clear hK KQ
  (try simp only [Act.put, List.setIfInBounds_toArray, List.set_cons_zero, List.set_cons_succ])
  refine wpAnyM.takeT (i := 23) (v := _) (some 50) rfl rfl (by kernel_rfl) (by kernel_rfl) (by kernel_rfl) (by kernel_rfl) (by kernel_rfl) (fun _ _ _ h => h) (Or.inl ⟨by rfl, fun W hW => by first | (obtain ⟨q0, q1, q2, q3⟩ := hW; go_simp <;> rfl) | (obtain ⟨q0, q1, q2, q3⟩ := hW; go_simp; done)⟩) KK ?_
  (try simp only [Act.put, List.setIfInBounds_toArray, List.set_cons_zero, List.set_cons_succ])
  refine wpAnyM.takeT (i := 24) (v := _) (some 51) rfl rfl (by kernel_rfl) (by kernel_rfl) (by kernel_rfl) (by kernel_rfl) (by kernel_rfl) (fun _ _ _ h => h) (Or.inl ⟨by rfl, fun W hW => by first | (obtain ⟨q0, q1, q2, q3⟩ := hW; go_simp <;> rfl) | (obtain ⟨q0, q1, q2, q3⟩ := hW; go_simp; done)⟩) KK ?_
  (try simp only [Act.put, List.setIfInBounds_toArray, List.set_cons_zero, List.set_cons_succ])
  refine wpAnyM.takeT (i := 25) (v := _) (some 52) rfl rfl (by kernel_rfl) (by kernel_rfl) (by kernel_rfl) (by kernel_rfl) (by kernel_rfl) (fun _ _ _ h => h) (Or.inl ⟨by rfl, fun W hW => by obtain ⟨q0, q1, q2, q3⟩ := hW; exact y_load 25 q3 (.tmp 6) rfl rfl⟩) KK ?_
  (try simp only [Act.put, List.setIfInBounds_toArray, List.set_cons_zero, List.set_cons_succ])
  refine wpAnyM.one (i := 26) (by kernel_rfl) rfl (fun KQ hK => ?_)
  go_simp
  have TD := told_yes okk (SS.out.2.2.2 _ _ sd) 0 1 7 1 0 (by decide) (by decide) (by omega) PK.out.1 (k7 PK.out.1 PK.out.2.1 PK.out.2.2).1 (k7 PK.out.1 PK.out.2.1 PK.out.2.2).2
  rw [e1.out] at TD
  refine TD.mono ?_
  rintro e wC ⟨rfl, cC, sC, okk⟩
  have sd := sd.trans sC
  have KK := KNH.out _ _ sd
  clear sC TD
  go_simp
  refine hK.out _ _ (fun _ => KK) ?_
  clear hK KQ
  (try simp only [Act.put, List.setIfInBounds_toArray, List.set_cons_zero, List.set_cons_succ])
  refine wpAnyM.takeT (i := 27) (v := _) (some 54) rfl rfl (by kernel_rfl) (by kernel_rfl) (by kernel_rfl) (by kernel_rfl) (by kernel_rfl) (fun _ _ _ h => h) (Or.inl ⟨by rfl, fun W hW => by first | (obtain ⟨q0, q1, q2, q3⟩ := hW; go_simp <;> rfl) | (obtain ⟨q0, q1, q2, q3⟩ := hW; go_simp; done)⟩) KK ?_
  (try simp only [Act.put, List.setIfInBounds_toArray, List.set_cons_zero, List.set_cons_succ])
  refine wpAnyM.one (i := 28) (by kernel_rfl) rfl (fun KQ hK => ?_)
  go_simp
  refine hK.out _ _ (fun _ => KK) ?_
  clear hK KQ
  (try simp only [Act.put, List.setIfInBounds_toArray, List.set_cons_zero, List.set_cons_succ])
  refine wpAnyM.done (by kernel_rfl) ?_ _
  obtain ⟨stD, slD, h1, h2, h3⟩ := BASE.out
  have sdd : Step No c1 WK _ _ := sd
  have slC := slD.kn sdd
  obtain ⟨vs, ⟨uc, uv, rfl, hb1⟩, hcs⟩ := slC.at (show [b1, b2, b3][0]? = some b1 from rfl)
  have hbl := bloC_len hb1.h hb1.hash uc uv
  have hans : (if ansE 7 b1 = 0 then encN 7 b1 else []) = encN 7 b1 := h1.ans (by omega) (by decide)
  have AA := answer_any okk 7 hb1 0
  rw [hans] at AA
  have hbu := answer_built 7 hbl
  rw [Nat.zero_mul, Nat.add_zero] at hcs
  obtain ⟨B, hB⟩ : ∃ B, bloC b1 uc uv = B := ⟨_, rfl⟩
  rw [hB] at hcs hbl AA hbu
  obtain ⟨AN, hAN⟩ : ∃ AN : List Value, .int .i64 7 :: B = AN := ⟨_, rfl⟩
  rw [show ansC 7 B = AN from hAN] at AA
  rw [hAN] at hbu
  obtain ⟨ev, hev⟩ : ∃ x, ansE 7 b1 = x := ⟨_, rfl⟩
  rw [hev] at AA
  have LB := Lib.hid (And.intro hcs (show (Tryz.prog.info? 59).map (·.size) = some B.length by rw [info_blo, hbl]))
  have SDH := Lib.hid sdd
  clear slC hb1 hcs hbl hans hB hAN hev stD slD h1 h2 h3 sd sdd okk KK
  go_wp2_with (first | (refine wpList_load_mid rfl 59 _ rfl g off rfl B _ LB.out.1 Tryz.underlying59 rfl LB.out.2 ?_) | (refine wpList_build_ps rfl (some 62) rfl 61 #[(0, .const (.int .i64 7)), (1, .tmp 61)] rfl AN (ps := [(0, .int .i64 7), (1, .agg B.toArray)]) (by first | rfl | (simp [Act.eval]; done) | (simp [Act.eval, Act.put]; done) | kernel_rfl) hbu ?_))
  with_reducible refine AA.mono ?_
  rintro e w2 ⟨vN, rfl, c2, slN, s2, o2⟩
  obtain ⟨na, nn, rfl, _⟩ := slN.form
  have i10 : IntKind.i64.has 10 := ⟨by decide, by decide⟩
  obtain ⟨x1, x2, x3⟩ := put_one (T := TInt .i64) (x := 10) (vs := [.int .i64 10]) (k2 := 0) o2 ⟨rfl, i10⟩ 3
  have nil2 : ∀ {c : Col} {w : World}, Sl TBlo c 0 0 w (.slice none 0 0) [] := Sl.nil _ _ _ _ _
  have h00 : IntKind.i64.has 0 := ⟨by decide, by decide⟩
  have C1 := scheck_any x1 (s := ⟨[], [], [10], 0, 0⟩) ⟨nil2, nil2, x2, by simp, by simp, by simp, h00, h00⟩
  rw [show checkS ⟨[], [], [10], 0, 0⟩ = 3 from rfl] at C1
  have X2 := Lib.hid (And.intro (slN.kn x3) ((SDH.out.trans s2).trans x3))
  clear AA LB SDH slN s2 o2 x1 x2 x3 hbu
  go_wp2_with fail
  refine C1.mono ?_
  rintro e w3 ⟨rfl, c3, s3, o3⟩
  have C2 := scheck_any o3 (s := ⟨[], [], [], -1, 0⟩) ⟨nil2, nil2, Sl.nil _ _ _ _ _, by simp, by simp, by simp, ⟨by decide, by decide⟩, h00⟩
  rw [show checkS ⟨[], [], [], -1, 0⟩ = 3 from rfl] at C2
  have X3 := Lib.hid (And.intro (X2.out.1.kn s3) (X2.out.2.trans s3))
  clear C1 X2 s3 o3
  go_wp2_with fail
  refine C2.mono ?_
  rintro e w4 ⟨rfl, c4, s4, o4⟩
  have MK := make65 w4
  obtain ⟨x1, x2, x3⟩ := put_list (T := TInt .i64) o4 0 (rds_rep (c := c4) (w := w4) 65) rfl (n := 65) (by rw [List.length_replicate]) (by decide) 3
  obtain ⟨ZZ, hZZ⟩ : ∃ Z, (List.replicate 65 [Value.int .i64 0]).flatten.toArray = Z := ⟨_, rfl⟩
  rw [hZZ] at MK x1 x2 x3
  obtain ⟨L65, hL65⟩ : ∃ L : List Int, List.replicate 65 0 = L := ⟨_, rfl⟩
  have hc65 : checkS ⟨[], [], L65, 0, 0⟩ = 4 := by rw [← hL65]; rfl
  have hl65 : L65.length ≤ 1000000000 := by rw [← hL65]; decide
  rw [hL65] at x2
  have C3 := scheck_any x1 (s := ⟨[], [], L65, 0, 0⟩) ⟨nil2, nil2, x2, by simp, by simp, hl65, h00, h00⟩
  rw [hc65] at C3
  have X4 := Lib.hid (And.intro ((X3.out.1.kn s4).kn x3) ((X3.out.2.trans s4).trans x3))
  clear C2 X3 s4 o4 x1 x2 x3 hZZ hc65 hl65 hL65
  go_wp2_with fail
  refine C3.mono ?_
  rintro e w5 ⟨rfl, c5, s5, o5⟩
  have st5 := X4.out.2.trans s5
  have A5 := AAH.out.kn st5
  have y0 := A5.get (i := 0) rfl
  have y1 := A5.get (i := 1) rfl
  have y2 := A5.get (i := 2) rfl
  have y3 := A5.get (i := 3) rfl
  have y4 := A5.get (i := 4) rfl
  have MD := mood_any o5 (SS.out.1 _ _ st5) (-1)
  rw [show moodS (srvK [b1, b2, b3] [2, 3] 3 5) (-1) = 0 by simp [moodS]] at MD
  have X5 := Lib.hid (And.intro (X4.out.1.kn s5) st5)
  clear C3 X4 s5 o5 st5 A5 MK
  go_wp2_with fail
  refine MD.mono ?_
  rintro e w6 ⟨rfl, c6, s6, o6⟩
  have st6 := X5.out.2.trans s6
  have A5 := AAH.out.kn st6
  have y0 := A5.get (i := 0) rfl
  have y1 := A5.get (i := 1) rfl
  have y2 := A5.get (i := 2) rfl
  have y3 := A5.get (i := 3) rfl
  have y4 := A5.get (i := 4) rfl
  have SI := silent_any o6 (SS.out.1 _ _ st6) 1 (X5.out.1.kn s6) (decAns (by decide) (by omega) PK.out.1) (id := 0) (h := 0) (fun h => absurd h (by decide)) (k8 _ _ _ _)
  have X6 := Lib.hid st6
  clear MD X5 s6 o6 st6 A5
  go_wp2_with fail
  refine SI.mono ?_
  rintro e w7 ⟨rfl, c7, s7, o7⟩
  have SF := sfault_any 2 w7
  rw [show faultS 2 = 0 from rfl] at SF
  have X7 := Lib.hid (And.intro (X6.out.trans s7) o7)
  clear SI X6 s7 o7 y0 y1 y2 y3 y4
  go_wp2_with fail
  with_reducible refine SF.mono ?_
  rintro e w8 ⟨rfl, rfl⟩
  have AW := awake29_any X7.out.2
  clear SF
  go_wp2_with fail
  with_reducible refine AW.mono ?_
  rintro e w8 ⟨rfl, c8, s8, o8⟩
  have F := Lib.hid (And.intro ((BASE.out.1.trans X7.out.1).trans s8) o8)
  clear AW s8 o8
  go_wp2_with fail
  go_ret
  exact ⟨by first | rfl | simp, c8, F.out⟩
end
end Go.Proofs.YtgcobbapaaihiaaGreat
