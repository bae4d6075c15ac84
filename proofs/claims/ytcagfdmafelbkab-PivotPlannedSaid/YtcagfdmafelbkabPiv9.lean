/- Pivot: the iterator of tries. -/
import Derived.Test.YtcagfdmafelbkabPiv8
set_option linter.unusedVariables false
set_option linter.unusedSimpArgs false
namespace Go.Proofs.Ytcagfdmafelbkab
open Go.RowKit Go.WideMaps
attribute [local go_sem] Oper.semAt_some

/-- How much is left to do, off the memory. -/
def muW (b : Nat) (w : World) : Nat :=
  match w.cell? ⟨b, 0, none⟩, w.cell? ⟨b, 2, none⟩, w.cell? ⟨b, 3, none⟩ with
  | some (.int _ low), some (.int _ t), some (.slice _ n _) => (2 * (t - low) - n).toNat
  | _, _, _ => 0

theorem muW_eq {c : Col} {w : World} {k kr b : Nat} {s : Stk} (h : IsSt c k kr w b s) : muW b w = muS s := by
  obtain ⟨v, hv, ho⟩ := h.row
  obtain ⟨va, vc, rfl, _⟩ := ho.sl.form
  unfold muW muS
  rw [h.c0, h.c2, hv]

def hdS (ks kr b : Nat) (s : Stk) (c : Col) (W : World) : Prop := Fine s ∧ s.l.length ≤ 1000000000 ∧ IsSt c ks kr W b s
def ydS (holds : List Pair) (ks kr b : Nat) (s : Stk) (c : Col) (W : World) : Prop := IsSt c ks kr W b (if (tri holds s).held = true then popS s else s)
def viS (holds : List Pair) (s : Stk) (_ : Col) (_ : World) (ar : Array Value) : Prop := ar = #[.agg (triC (tri holds s)).toArray]

set_option maxRecDepth 100000 in
set_option maxHeartbeats 1600000 in
theorem tries_iter {c : Col} {w : World} {K : Nat → Prop} {ks kr km B1 B2 BA mb b n : Nat} {l : List Pair} (h1 : w.cell? ⟨B1, 0, none⟩ = some (.pointer (some ⟨b, 0, none⟩))) (h2 : w.cell? ⟨B2, 0, none⟩ = some (.func (.func 32) #[] #[.pointer (some ⟨BA, 0, none⟩)]))
    (h3 : w.cell? ⟨BA, 0, none⟩ = some (.map (some mb))) (hm : IsPairs c km w mb l n) (hc1 : ¬ K (c B1)) (hc2 : ¬ K (c B2)) (hc3 : ¬ K (c BA)) (hkm : ¬ K km) (hK : K ks) (hk0 : ks ≠ 0) (hr0 : kr ≠ 0) (hkr : kr ≠ ks) :
    IterS Try.prog 35 #[.pointer (some ⟨B1, 0, none⟩), .pointer (some ⟨B2, 0, none⟩)] K (One ks) c w (fun _ _ _ => True) (hdS ks kr b) (ydS l ks kr b) (viS l) (fun s => s.l = []) muS := by
  intro lb J Y Jx c0 W0 s0 hst hok hJ hJx hHd hYd hY hJ0
  have hb1 := World.block_lt_of_cell? w _ h1
  have hb2 := World.block_lt_of_cell? w _ h2
  have hb3 := World.block_lt_of_cell? w _ h3
  have g1 : ∀ {c2 W2}, Step K c w c2 W2 → W2.cell? ⟨B1, 0, none⟩ = some (.pointer (some ⟨b, 0, none⟩)) := fun h => (h.cell hb1 hc1).trans h1
  have g2 : ∀ {c2 W2}, Step K c w c2 W2 → W2.cell? ⟨B2, 0, none⟩ = some (.func (.func 32) #[] #[.pointer (some ⟨BA, 0, none⟩)]) := fun h => (h.cell hb2 hc2).trans h2
  have g3 : ∀ {c2 W2}, Step K c w c2 W2 → W2.cell? ⟨BA, 0, none⟩ = some (.map (some mb)) := fun h => (h.cell hb3 hc3).trans h3
  have g4 : ∀ {c2 W2}, Step K c w c2 W2 → IsPairs c2 km W2 mb l n := fun h => hm.keep h hkm
  have f1 := g1 hst
  have f2 := g2 hst
  refine callsIn_of_wp Try.func35 rfl trivial ?_
  simp only [Try.ntmps35, List.size_toArray, List.length_cons, List.length_nil, Nat.reduceAdd, Nat.reduceSub, Array.replicate_succ, Array.replicate_zero, List.push_toArray, List.append_toArray, List.nil_append, List.cons_append]
  gi_wp2
  gi_loopw [4] (fun x wr => ∃ (s : Stk) (cr : Col), Step K c0 W0 cr wr ∧ Ok cr wr ∧ J s cr wr) (fun _ wr => muW b wr)
  case atStart => exact ⟨s0, c0, Step.refl, hok, hJ0⟩
  case round =>
    obtain ⟨s, cr, s1, o1, j1⟩ := hrel
    obtain ⟨fi, hlen, i1⟩ := hHd _ _ _ j1
    have hr : 1 ≤ s.root := fi.good.root.1
    have e1 := g1 (hst.trans s1)
    have T1 : ∀ {c2 W2}, Step No cr wr c2 W2 → _ := fun st => sttop_any (i1.kn st) hr
    have KS : ∀ {c2 W2}, Step No cr wr c2 W2 → (fun W => W.cell? ⟨B1, 0, none⟩ = some (.pointer (some ⟨b, 0, none⟩)) ∧ W.cell? ⟨b, 0, none⟩ = some (.int .i64 s.low)) W2 := fun st => ⟨g1 (hst.trans (s1.trans st.ofNo)), (i1.kn st).c0⟩
    by_cases hl : s.l = []
    · have D1 := done_yes i1 hr hl
      have HL := Lib.hid hl
      clear hl
      gi_wp2
      refine ⟨trivial, rfl, (callsIn_wide (n := 0)).2 (D1.mono ?_)⟩
      rintro e w1 ⟨rfl, rfl⟩
      gi_wp2
      go_end0
      exact ⟨⟨_, rfl⟩, cr, o1, s1, .inl ⟨s, HL.out, j1⟩⟩
    · have D1 := done_no i1 hr hl
      have HL := Lib.hid hl
      clear hl
      gi_wp2
      refine ⟨trivial, rfl, (callsIn_wide (n := 0)).2 (D1.mono ?_)⟩
      rintro e w1 ⟨rfl, rfl⟩
      gi_wp2
      refine wpIn_wide.2 ?_
      have K1 := KS (Step.rf (c := cr) (w := wr)).drew
      refine region_planM (fun W => W.cell? ⟨B1, 0, none⟩ = some (.pointer (some ⟨b, 0, none⟩)) ∧ W.cell? ⟨b, 0, none⟩ = some (.int .i64 s.low)) (fun i => !([8] : List Nat).contains i) (by kernel_rfl) ?_
      refine wpAnyM.takeT (i := 0) (v := _) (some 8) rfl rfl (by kernel_rfl) (by kernel_rfl) (by kernel_rfl) (by kernel_rfl) (by kernel_rfl) (fun _ _ _ h => h) (Or.inl ⟨by rfl, fun W hW => by first | (obtain ⟨q0, q1⟩ := hW; go_simp <;> rfl) | (obtain ⟨q0, q1⟩ := hW; go_simp; done)⟩) K1 ?_
      (try simp only [Act.put, List.setIfInBounds_toArray, List.set_cons_zero, List.set_cons_succ])
      refine wpAnyM.takeT (i := 1) (v := _) (some 9) rfl rfl (by kernel_rfl) (by kernel_rfl) (by kernel_rfl) (by kernel_rfl) (by kernel_rfl) (fun _ _ _ h => h) (Or.inl ⟨by rfl, fun W hW => by first | (obtain ⟨q0, q1⟩ := hW; go_simp <;> rfl) | (obtain ⟨q0, q1⟩ := hW; go_simp; done)⟩) K1 ?_
      (try simp only [Act.put, List.setIfInBounds_toArray, List.set_cons_zero, List.set_cons_succ])
      refine wpAnyM.takeT (i := 2) (v := _) (some 10) rfl rfl (by kernel_rfl) (by kernel_rfl) (by kernel_rfl) (by kernel_rfl) (by kernel_rfl) (fun _ _ _ h => h) (Or.inl ⟨by rfl, fun W hW => by first | (obtain ⟨q0, q1⟩ := hW; go_simp <;> rfl) | (obtain ⟨q0, q1⟩ := hW; go_simp; done)⟩) K1 ?_
      (try simp only [Act.put, List.setIfInBounds_toArray, List.set_cons_zero, List.set_cons_succ])
      refine wpAnyM.takeT (i := 3) (v := _) (some 11) rfl rfl (by kernel_rfl) (by kernel_rfl) (by kernel_rfl) (by kernel_rfl) (by kernel_rfl) (fun _ _ _ h => h) (Or.inl ⟨by rfl, fun W hW => by first | (obtain ⟨q0, q1⟩ := hW; go_simp <;> rfl) | (obtain ⟨q0, q1⟩ := hW; go_simp; done)⟩) K1 ?_
      (try simp only [Act.put, List.setIfInBounds_toArray, List.set_cons_zero, List.set_cons_succ])
      refine wpAnyM.takeT (i := 4) (v := _) (some 12) rfl rfl (by kernel_rfl) (by kernel_rfl) (by kernel_rfl) (by kernel_rfl) (by kernel_rfl) (fun _ _ _ h => h) (Or.inl ⟨by rfl, fun W hW => by first | (obtain ⟨q0, q1⟩ := hW; go_simp <;> rfl) | (obtain ⟨q0, q1⟩ := hW; go_simp; done)⟩) K1 ?_
      (try simp only [Act.put, List.setIfInBounds_toArray, List.set_cons_zero, List.set_cons_succ])
      refine wpAnyM.forkR (m := 1) (doneF := #[true, true, true, true, true, true, true, true, false]) [(13, .int .i64 (topL s.l)), (14, .agg #[.int .i64 s.low, .int .i64 (topL s.l), .bool false]), (4, .pointer (some ⟨wr.heap.size, 0, none⟩))] (fun W => ∃ W0, (∃ m, W0 = wr.drewN m) ∧ W = W0.alloc (.cells #[.int .i64 0, .int .i64 0, .bool false] 41)) (fun REST => ?_) (fun W2 hR => ?_)
      · (try simp only [List.foldl_cons, List.foldl_nil, Act.put, List.setIfInBounds_toArray, List.set_cons_zero, List.set_cons_succ] at REST)
        refine wpAnyM.fork2 (i := 5) (j := 7) (by kernel_rfl) rfl rfl (fun KQ hK => ?_) (fun KQ hK => ?_)
        · go_simp
          refine (T1 (Step.rf.drewN 1)).mono ?_
          rintro e w2 ⟨rfl, n, rfl⟩
          have Ka := KS ((Step.rf (c := cr) (w := wr).drewN 1).drewN n)
          refine hK.out _ _ (fun _ => Ka) ?_
          clear hK KQ
          (try simp only [Act.put, List.setIfInBounds_toArray, List.set_cons_zero, List.set_cons_succ])
          refine wpAnyM.takeT (i := 6) (v := _) (some 14) rfl rfl (by kernel_rfl) (by kernel_rfl) (by kernel_rfl) (by kernel_rfl) (by kernel_rfl) (fun _ _ _ h => h) (Or.inl ⟨by rfl, fun W hW => by first | (obtain ⟨q0, q1⟩ := hW; go_simp <;> rfl) | (obtain ⟨q0, q1⟩ := hW; go_simp; done)⟩) Ka ?_
          (try simp only [Act.put, List.setIfInBounds_toArray, List.set_cons_zero, List.set_cons_succ])
          refine wpAnyM.one (i := 7) (by kernel_rfl) rfl (fun KQ hK => ?_)
          go_simp
          have Kb := KS (((Step.rf (c := cr) (w := wr).drewN 1).drewN n).alloc (.cells #[.int .i64 0, .int .i64 0, .bool false] 41))
          refine hK.out _ _ (fun _ => Kb) ?_
          clear hK KQ
          (try simp only [Act.put, List.setIfInBounds_toArray, List.set_cons_zero, List.set_cons_succ])
          exact (REST _ (⟨wr.drewN (1 + n), ⟨1 + n, rfl⟩, rfl⟩)).cast (by kernel_rfl)
        · go_simp
          have Ka := KS ((Step.rf (c := cr) (w := wr).drewN 1).alloc (.cells #[.int .i64 0, .int .i64 0, .bool false] 41))
          refine hK.out _ _ (fun _ => Ka) ?_
          clear hK KQ
          (try simp only [Act.put, List.setIfInBounds_toArray, List.set_cons_zero, List.set_cons_succ])
          refine wpAnyM.one (i := 5) (by kernel_rfl) rfl (fun KQ hK => ?_)
          go_simp
          refine (T1 ((Step.rf.drewN 1).alloc _)).mono ?_
          rintro e w2 ⟨rfl, n, rfl⟩
          have Kb := KS (((Step.rf (c := cr) (w := wr).drewN 1).alloc (.cells #[.int .i64 0, .int .i64 0, .bool false] 41)).drewN n)
          refine hK.out _ _ (fun _ => Kb) ?_
          clear hK KQ
          (try simp only [Act.put, List.setIfInBounds_toArray, List.set_cons_zero, List.set_cons_succ])
          refine wpAnyM.takeT (i := 6) (v := _) (some 14) rfl rfl (by kernel_rfl) (by kernel_rfl) (by kernel_rfl) (by kernel_rfl) (by kernel_rfl) (fun _ _ _ h => h) (Or.inl ⟨by rfl, fun W hW => by first | (obtain ⟨q0, q1⟩ := hW; go_simp <;> rfl) | (obtain ⟨q0, q1⟩ := hW; go_simp; done)⟩) Kb ?_
          (try simp only [Act.put, List.setIfInBounds_toArray, List.set_cons_zero, List.set_cons_succ])
          exact (REST _ (⟨(wr.drewN 1).drewN n, ⟨1 + n, World.drewN_drewN _ _ _⟩, rfl⟩)).cast (by kernel_rfl)
      (try simp only [List.foldl_cons, List.foldl_nil, Act.put, List.setIfInBounds_toArray, List.set_cons_zero, List.set_cons_succ])
      obtain ⟨W0, ⟨m, rfl⟩, rfl⟩ := hR
      have sW := (Step.rf (c := cr) (w := wr).drewN m).alloc (.cells #[.int .i64 0, .int .i64 0, .bool false] 41)
      have oW := (o1.drewN m).alloc (.cells #[.int .i64 0, .int .i64 0, .bool false] 41)
      have aW := At.new0 (o1.drewN m) [.int .i64 0, .int .i64 0, .bool false] 41
      have fW := soft_new (wr.drewN m) [.int .i64 0, .int .i64 0, .bool false] 41
      have zW : (wr.drewN m).heap.size = wr.heap.size := rfl
      rw [zW] at aW fW
      obtain ⟨W, hW⟩ : ∃ W, (wr.drewN m).alloc (.cells #[.int .i64 0, .int .i64 0, .bool false] 41) = W := ⟨_, rfl⟩
      replace aW : At cr W wr.heap.size 0 [.int .i64 0, .int .i64 0, .bool false] := hW ▸ aW
      replace fW : Soft W wr.heap.size := hW ▸ fW
      rw [hW] at sW oW ⊢
      clear hW zW
      have K2 := KS sW
      have a0 := aW.cells 0 _ rfl
      have a1 := aW.cells 1 _ rfl
      have a2 := aW.cells 2 _ rfl
      have b0 := fW 0
      have b1 := fW 1
      have b2 := fW 2
      refine wpAnyM.one (i := 8) (by kernel_rfl) rfl (fun KQ hK => ?_)
      go_simp
      refine hK.out _ _ (fun h => absurd h (by decide)) ?_
      clear hK KQ
      (try simp only [Act.put, List.setIfInBounds_toArray, List.set_cons_zero, List.set_cons_succ])
      refine wpAnyM.done (by kernel_rfl) ?_ _
      have A3 := ((aW.setj (j := 0) (by simp) (.int .i64 s.low)).setj (j := 1) (by simp) (.int .i64 (topL s.l))).setj (j := 2) (by simp) (.bool false)
      have F3 := ((fW.set ⟨wr.heap.size, 0, none⟩ (.int .i64 s.low)).set ⟨wr.heap.size, 1, none⟩ (.int .i64 (topL s.l))).set ⟨wr.heap.size, 2, none⟩ (.bool false)
      have S3 := ((sW.setCell (a := ⟨wr.heap.size, 0, none⟩) (.inl (Nat.le_refl _)) (.int .i64 s.low)).setCell (a := ⟨wr.heap.size, 1, none⟩) (.inl (Nat.le_refl _)) (.int .i64 (topL s.l))).setCell (a := ⟨wr.heap.size, 2, none⟩) (.inl (Nat.le_refl _)) (.bool false)
      have O3 := ((oW.setCell ⟨wr.heap.size, 0, none⟩ (.int .i64 s.low)).setCell ⟨wr.heap.size, 1, none⟩ (.int .i64 (topL s.l))).setCell ⟨wr.heap.size, 2, none⟩ (.bool false)
      simp only [List.set_cons_zero, List.set_cons_succ] at A3
      obtain ⟨W3, hW3⟩ : ∃ W3, ((W.setCell ⟨wr.heap.size, 0, none⟩ (.int .i64 s.low)).setCell ⟨wr.heap.size, 1, none⟩ (.int .i64 (topL s.l))).setCell ⟨wr.heap.size, 2, none⟩ (.bool false) = W3 := ⟨_, rfl⟩
      rw [hW3] at A3 F3 S3 O3 ⊢
      clear hW3 K1 K2 a0 a1 a2 b0 b1 b2 aW fW sW oW
      have e2 := g2 (hst.trans (s1.trans S3.ofNo))
      have p0 := A3.get 0 rfl
      have p1 := A3.get 1 rfl
      have P1 := plan1_any O3 (g3 (hst.trans (s1.trans S3.ofNo))) (g4 (hst.trans (s1.trans S3.ofNo))) s.low (topL s.l) fi.good.low.has (fi.good.top HL.out).1.has
      obtain ⟨hb, hhb⟩ : ∃ hb, decide ((s.low, topL s.l) ∈ l) = hb := ⟨_, rfl⟩
      rw [hhb] at P1
      have HB := Lib.hid hhb
      clear hhb
      have z1 : B1 < wr.heap.size := Nat.lt_of_lt_of_le hb1 (hst.trans s1).size
      have ht4 : (tri l s).held = hb := HB.out
      have hvi : #[Value.agg #[.int .i64 s.low, .int .i64 (topL s.l), .bool hb]] = #[Value.agg (triC (tri l s)).toArray] := by rw [← ht4]; rfl
      have HT := Lib.hid (And.intro ht4 hvi)
      clear ht4 hvi
      gi_wp2
      refine ⟨trivial, rfl, (callsIn_wide (n := 0)).2 (P1.mono ?_)⟩
      rintro e w4 ⟨rfl, s4, o4⟩
      have A4 := A3.keep s4 (fun h => h)
      have F4 := F3.step s4 A3.lt (fun h => h)
      have S4 := S3.trans s4
      have q0 := A4.get 0 rfl
      have q1 := A4.get 1 rfl
      have q2 := A4.get 2 rfl
      have f2 := F4 2
      have A5 := A4.setj (j := 2) (by simp) (.bool hb)
      simp only [List.set_cons_zero, List.set_cons_succ] at A5
      have S5 := S4.setCell (a := ⟨wr.heap.size, 2, none⟩) (.inl (Nat.le_refl _)) (.bool hb)
      have O5 := o4.setCell ⟨wr.heap.size, 2, none⟩ (.bool hb)
      have e1' := g1 (hst.trans (s1.trans S4.ofNo))
      have i5 := i1.kn S5
      clear A3 F3 S3 O3 e2 p0 p1 P1 s4 o4 A4 F4 S4 D1 KS T1 e1
      cases hb with
      | true =>
        have Y1 := pop_any O5 i5 hr hk0 hr0 hkr
        have hyd := fun (c2 : Col) (W2 : World) (h1 : Step (One ks) cr wr c2 W2) (h2 : Ok c2 W2) (h3 : IsSt c2 ks kr W2 b (popS s)) => hYd s cr wr c2 W2 j1 HL.out h1 h2 (by unfold ydS; rw [HT.out.1, if_pos rfl]; exact h3)
        have X := Lib.hid (And.intro A5 (And.intro S5 O5))
        clear i5 A5 S5 O5 hYd hJ
        gi_wp2
        refine ⟨trivial, rfl, (callsIn_wide (n := 0)).2 (Y1.mono ?_)⟩
        rintro e w6 ⟨rfl, i6, s6, o6⟩
        obtain ⟨A5, S5, O5⟩ := X.out
        have S6 : Step (One ks) cr wr cr w6 := S5.ofNo.trans s6
        have A6 := A5.keep s6 (by show ¬ 0 = ks; omega)
        have m0 := A6.get 0 rfl
        have m1 := A6.get 1 rfl
        have m2 := A6.get 2 rfl
        have S6K : Step K cr wr cr w6 := S6.mono fun j h => by cases h; exact hK
        obtain ⟨fn, tmps, assign, body, hy, hR⟩ := hY s cr w6 #[.agg #[.int .i64 s.low, .int .i64 (topL s.l), .bool true]] HL.out (hyd cr w6 S6 o6 i6) o6 (hst.trans (s1.trans S6K)) HT.out.2
        clear i6 s6 A6 hyd A5 S5 O5 q0 q1 q2 f2 e1' Y1
        gi_wp2
        refine ⟨rfl, hR.mono ?_⟩
        rintro e W7 ⟨c7, o7, s7, (⟨rfl, s', hmu, hJ'⟩ | ⟨rfl, hJx'⟩)⟩
        · clear hy hR
          gi_wp2
          go_roundw
          case rel => exact ⟨s', c7, s1.trans (S6K.trans s7), o7, hJ'⟩
          case measure => rw [muW_eq (hHd _ _ _ hJ').2.2, muW_eq i1]; exact hmu
        · clear hy hR
          gi_wp2
          refine bodyPost_ret (results_none rfl _ _ _) rfl ?_
          exact ⟨⟨_, rfl⟩, c7, o7, s1.trans (S6K.trans s7), .inr hJx'⟩
      | false =>
        have hyd : Y s cr (w4.setCell ⟨wr.heap.size, 2, none⟩ (.bool false)) := hYd s cr wr cr _ j1 HL.out S5.ofNo O5 (by unfold ydS; rw [HT.out.1, if_neg (by decide)]; exact i5)
        obtain ⟨fn, tmps, assign, body, hy, hR⟩ := hY s cr _ #[.agg #[.int .i64 s.low, .int .i64 (topL s.l), .bool false]] HL.out hyd O5 (hst.trans (s1.trans S5.ofNo)) HT.out.2
        have X := Lib.hid (And.intro A5 (And.intro S5 O5))
        clear i5 A5 S5 O5 hYd hJ hyd
        gi_wp2
        refine ⟨rfl, hR.mono ?_⟩
        obtain ⟨A5, S5, O5⟩ := X.out
        rintro e W7 ⟨c7, o7, s7, (⟨rfl, s', hmu, hJ'⟩ | ⟨rfl, hJx'⟩)⟩
        · clear hy hR
          gi_wp2
          go_roundw
          case rel => exact ⟨s', c7, s1.trans (S5.ofNo.trans s7), o7, hJ'⟩
          case measure => rw [muW_eq (hHd _ _ _ hJ').2.2, muW_eq i1]; exact hmu
        · clear hy hR
          gi_wp2
          refine bodyPost_ret (results_none rfl _ _ _) rfl ?_
          exact ⟨⟨_, rfl⟩, c7, o7, s1.trans (S5.ofNo.trans s7), .inr hJx'⟩
end Go.Proofs.Ytcagfdmafelbkab
