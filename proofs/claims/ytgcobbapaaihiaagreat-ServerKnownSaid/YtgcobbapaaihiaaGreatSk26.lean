/- ServerKnown, part 26: lemmas, each with its own conditions. -/
import Derived.Test.YtgcobbapaaihiaaGreatSk20
import Derived.Test.YtgcobbapaaihiaaGreatSk21
import Derived.Test.YtgcobbapaaihiaaGreatSk25
set_option linter.unusedVariables false
set_option linter.unusedSimpArgs false
namespace Go.Proofs.YtgcobbapaaihiaaGreat
open Go.RowKit

theorem zero_hash32 : ∃ Z, Z.length = 32 ∧ zeroIs Tryz.prog 51 Z := ⟨zeroL 51, by kernel_rfl, by unfold zeroIs; kernel_rfl⟩
theorem Hdr.Wf.vals' {h : Hdr} (hw : h.Wf) {x : List UInt8} (hx : x.length = 32) : ({ h with vals := x } : Hdr).Wf := ⟨hw.name, hw.height, hw.time, hw.prev, hx, hw.next, hw.app⟩

section
variable {c : Col} {w : World}

set_option maxRecDepth 100000 in
set_option maxHeartbeats 3200000 in
theorem make_any (hok : Ok c w) (h : Hdr) (hw : h.Wf) (hch : checkH h = 0) {kx : Nat} {v : Value} {l : List Vld} (hv : Sl TVal c kx 0 w v l) (hc : checkV l = 0) (h64 : (encV l).length % 64 ≠ 0) (hlen : (encV l).length ≤ 900000) (hl : l.length ≤ 1000000000)
    (hh64 : ∀ x : List UInt8, x.length = 32 → (1 + (encH { h with vals := x }).length) % 64 ≠ 0 ∧ (encH { h with vals := x }).length ≤ 900000) :
    Calls Tryz.prog 133 #[.agg (hdrC h).toArray, v] w fun r w' => ∃ (x y : List UInt8) (bv : Value), x.length = 32 ∧ y.length = 32 ∧ r = .returned (.tuple #[.agg (bloC ⟨{ h with vals := x }, ⟨h.height, y, []⟩, l⟩ (.slice none 0 0) bv).toArray, .int .i64 0]) ∧
      ∃ c', Blo.At ⟨{ h with vals := x }, ⟨h.height, y, []⟩, l⟩ c' 0 w' (.slice none 0 0) bv ∧ Step No c w c' w' ∧ Ok c' w' := by
  obtain ⟨q, hq, hqc⟩ := hok.top kx
  have hq0 : q ≠ 0 := by omega
  obtain ⟨ah, oh, sh⟩ := newAt hok (hdrC h) 53 q
  obtain ⟨ZB, hZB, zB⟩ := zero_block
  obtain ⟨ab, ob, sb⟩ := newAt oh ZB 59 (q + 1)
  rw [World.size_alloc] at ab ob sb
  have HV := hashV_ok ob ((hv.kn sh).kn sb) hc h64 hlen
  obtain ⟨va, vn, rfl, _⟩ := hv.form
  obtain ⟨hb, hhb⟩ : ∃ b, w.heap.size = b := ⟨_, rfl⟩
  rw [hhb] at ah oh sh ab ob sb HV
  have hl0 := hdrC_len hw
  have X := Lib.hid (And.intro (ah.kn sb) (And.intro ab (And.intro (sh.trans sb) ((hv.kn sh).kn sb))))
  have HH := Lib.hid (And.intro hw (And.intro hch (And.intro hl (And.intro hh64 (And.intro hqc (And.intro zB (And.intro hZB (And.intro hc hl0))))))))
  obtain ⟨B, hB⟩ : ∃ B, hdrC h = B := ⟨_, rfl⟩
  rw [hB] at HV X ⊢
  have HB := Lib.hid hB
  clear hB
  obtain ⟨W1, hW1⟩ : ∃ W, (w.alloc (.cells B.toArray 53)).alloc (.cells ZB.toArray 59) = W := ⟨_, rfl⟩
  rw [hW1] at HV
  rw [hW1] at X
  clear ah oh sh ab ob sb hv hok hw hch hc h64 hlen hl hh64 hqc zB hZB hl0
  go_enter Tryz.func133, Tryz.ntmps133
  go_wp2_with (refine wpList_alloc_zero rfl (some 4) rfl 59 rfl HH.out.2.2.2.2.2.1 ?_)
  (try simp only [World.size_alloc])
  (try rw [hhb])
  (try rw [hW1])
  with_reducible refine HV.mono ?_
  rintro e w2 ⟨x, hx, rfl, c2, s2, o2⟩
  obtain ⟨Z1, hZ1, z1⟩ := zero_hash32
  have hYl : (bC x).length = 32 := by rw [bC_len, hx]
  obtain ⟨W3, c3, hW3, a3, o3, s3, t1, t2, t3, t4⟩ := stnew o2 hZ1 hYl (bC_one x) info_hash (q := q + 2) (Nat.succ_ne_zero _)
  obtain ⟨xb, hxb⟩ : ∃ b, w2.heap.size = b := ⟨_, rfl⟩
  rw [hxb] at hW3 a3 t1
  obtain ⟨hw, hch, hl, hh64, hqc, zB, hZB, hc, hl0⟩ := HH.out
  have ah3 := (X.out.1.kn s2).kn s3
  have eB : B = (.string ⟨h.name.toArray⟩ :: .int .i64 h.height :: .int .i64 h.time :: bC h.prev) ++ (bC h.vals ++ (bC h.next ++ bC h.app)) := by rw [← HB.out]; simp [hdrC]
  have eP : (.string ⟨h.name.toArray⟩ :: .int .i64 h.height :: .int .i64 h.time :: bC h.prev : List Value).length = 35 := by simp [bC_len, hw.prev]
  rw [eB] at ah3
  obtain ⟨ah4, t5⟩ := ah3.seg o3 (by omega : q ≠ 0) (us := bC x) (by rw [hYl, bC_len, hw.vals])
  rw [eP] at ah4 t5
  have eB' : (.string ⟨h.name.toArray⟩ :: .int .i64 h.height :: .int .i64 h.time :: bC h.prev : List Value) ++ (bC x ++ (bC h.next ++ bC h.app)) = hdrC { h with vals := x } := by simp [hdrC]
  rw [eB'] at ah4
  have s4 : Step (One q) c3 W3 c3 (W3.setCells hb 35 (bC x)) := Step.setCells (K := One q) (.inr ah3.col) _ _ _ Step.refl
  have o4 := Ok.setCells (b := hb) (bC x) 35 _ o3
  have ab4 := ((X.out.2.1.kn s2).kn s3).keep s4 (show ¬ q + 1 = q by omega)
  have sv4 := ((X.out.2.2.2.kn s2).kn s3).keep s4 (show ¬ kx = q by omega) (show ¬ 0 = q by omega)
  have st4 : Step (fun j => q ≤ j) c w c3 (W3.setCells hb 35 (bC x)) := ((((X.out.2.2.1.trans s2).trans s3).ofNo (K := fun j => q ≤ j)).trans (s4.mono fun j (e : j = q) => by omega))
  obtain ⟨h64, hlen⟩ := hh64 x hx
  have HS := hashH_ok o4 { h with vals := x } (hw.vals' hx) hch h64 hlen
  have hl1 := hdrC_len (hw.vals' hx)
  have hf0 : (hdrC { h with vals := x })[1]? = some (.int .i64 h.height) := rfl
  obtain ⟨Y, hY⟩ : ∃ Y, bC x = Y := ⟨_, rfl⟩
  obtain ⟨B', hB'⟩ : ∃ B', hdrC { h with vals := x } = B' := ⟨_, rfl⟩
  obtain ⟨W4, hW4⟩ : ∃ W, W3.setCells hb 35 (bC x) = W := ⟨_, rfl⟩
  rw [hW4] at ah4 ab4 sv4 st4 o4 HS
  rw [hY] at hW3 a3 t1 t2 t3 t4 t5 hYl hW4 ⊢
  rw [hB'] at ah4 HS hl1 hf0
  have T := Lib.hid (And.intro z1 (And.intro t1 (And.intro t2 (And.intro t3 (And.intro a3.cells (And.intro t4 (And.intro (show W3.there hb 35 Y.toArray.size by simpa using t5) (And.intro hW3 (And.intro hW4 (And.intro ah4.cells (show (Tryz.prog.info? 53).map (·.size) = some B'.length by rw [info_hdr, hl1])))))))))))
  have X4 := Lib.hid (And.intro ah4 (And.intro ab4 (And.intro sv4 (And.intro st4 (And.intro hf0 (And.intro hx (And.intro hB' hl1)))))))
  clear HV X s2 o2 hZ1 z1 hYl hW3 a3 o3 s3 t1 t2 t3 t4 t5 ah3 eB eP ah4 eB' s4 o4 ab4 sv4 st4 h64 hlen hl1 hf0 hY hB' hW4 hw hch hl hh64 hqc zB hZB hc hl0
  go_wp2_with (first | (refine wpList_alloc_zero rfl (some 6) rfl 51 rfl T.out.1 ?_; rw [hxb]) | (refine wpList_store_mid rfl 51 _ _ rfl xb 0 Y.toArray rfl rfl T.out.2.1 T.out.2.2.1 T.out.2.2.2.1 ?_; rw [T.out.2.2.2.2.2.2.2.1]) | (refine wpList_store_mid rfl 51 _ _ rfl hb 35 Y.toArray rfl rfl T.out.2.2.2.2.2.2.1 T.out.2.2.1 T.out.2.2.2.1 ?_; rw [T.out.2.2.2.2.2.2.2.2.1]) | (refine wpList_load_mid rfl 51 _ rfl xb 0 rfl Y _ T.out.2.2.2.2.1 Tryz.underlying51 rfl T.out.2.2.2.2.2.1 ?_) | (refine wpList_load_mid rfl 53 _ rfl hb 0 rfl B' _ T.out.2.2.2.2.2.2.2.2.2.1 Tryz.underlying53 rfl T.out.2.2.2.2.2.2.2.2.2.2 ?_))
  with_reducible refine HS.mono ?_
  rintro e w5 ⟨y, hy, rfl, c5, s5, o5⟩
  obtain ⟨Z1, hZ1, z1⟩ := zero_hash32
  have hYl : (bC y).length = 32 := by rw [bC_len, hy]
  obtain ⟨W6, c6, hW6, a6, o6, s6, t1, t2, t3, t4⟩ := stnew o5 hZ1 hYl (bC_one y) info_hash (q := q + 3) (Nat.succ_ne_zero _)
  obtain ⟨yb, hyb⟩ : ∃ b, w5.heap.size = b := ⟨_, rfl⟩
  rw [hyb] at hW6 a6 t1
  have ah6 := (X4.out.1.kn s5).kn s6
  have ab6 := (X4.out.2.1.kn s5).kn s6
  have sv6 := (X4.out.2.2.1.kn s5).kn s6
  have st6 := (X4.out.2.2.2.1.trans s5.ofNo).trans s6.ofNo
  have sd : Step No c6 W6 c6 W6.drew := Step.rf.drewN 1
  have od : Ok c6 W6.drew := o6.drewN 1
  have VC := vclone_any od 0 (sv6.kn sd) HH.out.2.2.1
  obtain ⟨Y2, hY2⟩ : ∃ Y, bC y = Y := ⟨_, rfl⟩
  rw [hY2] at hW6 a6 t1 t2 t3 t4 hYl ⊢
  have hld : (Tryz.prog.info? 53).map (·.size) = some B'.length := T.out.2.2.2.2.2.2.2.2.2.2
  have KN : ∀ {c2 : Col} {w2 : World}, Step No c6 W6 c2 w2 → (fun W : World => (Instr.loadAt 53 (.pointer (some ⟨hb, 0, none⟩))).run Tryz.prog W = .ok (.agg B'.toArray) W ∧ W.cell? ⟨hb, 1, none⟩ = some (.int .i64 h.height) ∧ (Instr.loadAt 51 (.pointer (some ⟨yb, 0, none⟩))).run Tryz.prog W = .ok (.agg Y2.toArray) W) w2 :=
    fun h2 => ⟨(ah6.kn h2).ld (ty := 53) Tryz.underlying53 rfl hld, (ah6.kn h2).get X4.out.2.2.2.2.1, (a6.kn h2).ld (ty := 51) Tryz.underlying51 rfl t4⟩
  have KK := KN sd
  have hbc := commit_built h.height hYl
  have X6 := Lib.hid (And.intro ab6 (And.intro st6 (And.intro sd (And.intro hY2 (And.intro hy (And.intro X4.out.2.2.2.2.2 hYl))))))
  have T6 := Lib.hid (And.intro z1 (And.intro t1 (And.intro t2 (And.intro t3 hW6))))
  clear HS X4 T s5 o5 hZ1 z1 a6 o6 s6 t1 t2 t3 t4 hW6 hYl ah6 ab6 sv6 st6 hY2 hy sd od
  go_wp2_with (first | (refine wpList_alloc_zero rfl (some 8) rfl 51 rfl T6.out.1 ?_; rw [hyb]) | (refine wpList_store_mid rfl 51 _ _ rfl yb 0 Y2.toArray rfl rfl T6.out.2.1 T6.out.2.2.1 T6.out.2.2.2.1 ?_; rw [T6.out.2.2.2.2]))
  refine region_planM (fun W => (Instr.loadAt 53 (.pointer (some ⟨hb, 0, none⟩))).run Tryz.prog W = .ok (.agg B'.toArray) W ∧ W.cell? ⟨hb, 1, none⟩ = some (.int .i64 h.height) ∧ (Instr.loadAt 51 (.pointer (some ⟨yb, 0, none⟩))).run Tryz.prog W = .ok (.agg Y2.toArray) W) (fun i => !([8, 9] : List Nat).contains i) (by kernel_rfl) ?_
  refine wpAnyM.takeT (i := 0) (v := _) (some 29) rfl rfl (by kernel_rfl) (by kernel_rfl) (by kernel_rfl) (by kernel_rfl) (by kernel_rfl) (fun _ _ _ h => h) (Or.inl ⟨by rfl, fun W hW => by obtain ⟨q0, q1, q2⟩ := hW; exact y_load 53 q0 (.tmp 2) rfl rfl⟩) KK ?_
  (try simp only [Act.put, List.setIfInBounds_toArray, List.set_cons_zero, List.set_cons_succ])
  refine wpAnyM.takeT (i := 1) (v := _) (some 30) rfl rfl (by kernel_rfl) (by kernel_rfl) (by kernel_rfl) (by kernel_rfl) (by kernel_rfl) (fun _ _ _ h => h) (Or.inl ⟨by rfl, fun W hW => by first | (obtain ⟨q0, q1, q2⟩ := hW; go_simp <;> rfl) | (obtain ⟨q0, q1, q2⟩ := hW; go_simp; done)⟩) KK ?_
  (try simp only [Act.put, List.setIfInBounds_toArray, List.set_cons_zero, List.set_cons_succ])
  refine wpAnyM.takeT (i := 3) (v := _) (some 32) rfl rfl (by kernel_rfl) (by kernel_rfl) (by kernel_rfl) (by kernel_rfl) (by kernel_rfl) (fun _ _ _ h => h) (Or.inl ⟨by rfl, fun W hW => by first | (obtain ⟨q0, q1, q2⟩ := hW; go_simp <;> rfl) | (obtain ⟨q0, q1, q2⟩ := hW; go_simp; done)⟩) KK ?_
  (try simp only [Act.put, List.setIfInBounds_toArray, List.set_cons_zero, List.set_cons_succ])
  refine wpAnyM.takeT (i := 4) (v := _) (some 33) rfl rfl (by kernel_rfl) (by kernel_rfl) (by kernel_rfl) (by kernel_rfl) (by kernel_rfl) (fun _ _ _ h => h) (Or.inl ⟨by rfl, fun W hW => by first | (obtain ⟨q0, q1, q2⟩ := hW; go_simp <;> rfl) | (obtain ⟨q0, q1, q2⟩ := hW; go_simp; done)⟩) KK ?_
  (try simp only [Act.put, List.setIfInBounds_toArray, List.set_cons_zero, List.set_cons_succ])
  refine wpAnyM.takeT (i := 5) (v := _) (some 34) rfl rfl (by kernel_rfl) (by kernel_rfl) (by kernel_rfl) (by kernel_rfl) (by kernel_rfl) (fun _ _ _ h => h) (Or.inl ⟨by rfl, fun W hW => by obtain ⟨q0, q1, q2⟩ := hW; exact y_load 51 q2 (.tmp 8) rfl rfl⟩) KK ?_
  (try simp only [Act.put, List.setIfInBounds_toArray, List.set_cons_zero, List.set_cons_succ])
  refine wpAnyM.takeT (i := 6) (v := _) (some 35) rfl rfl (by kernel_rfl) (by kernel_rfl) (by kernel_rfl) (by kernel_rfl) (by kernel_rfl) (fun _ _ _ h => h) (Or.inl ⟨by rfl, fun W hW => by obtain ⟨q0, q1, q2⟩ := hW; exact y_build 56 hbc #[(0, .tmp 33), (1, .tmp 34)] rfl rfl⟩) KK ?_
  (try simp only [Act.put, List.setIfInBounds_toArray, List.set_cons_zero, List.set_cons_succ])
  refine wpAnyM.one (i := 2) (by kernel_rfl) rfl (fun KQ hK => ?_)
  go_simp
  refine VC.mono ?_
  rintro e w7 ⟨v7, c7, rfl, p7, s7, o7⟩
  obtain ⟨xa, xn, rfl, _⟩ := p7.sl.form
  have KK := KN (X6.out.2.2.1.trans s7)
  have ab7 := (X6.out.1.kn X6.out.2.2.1).kn s7
  obtain ⟨_, st6, sd, hY2, hy, ⟨hx, hB', hl1⟩, hYl⟩ := X6.out
  have hCl : (.int .i64 h.height :: (Y2 ++ [.slice none 0 0]) : List Value).length = 34 := by simp [hYl]
  have hbu := block_built hl1 hCl (v := .slice xa l.length xn) rfl rfl
  have b7 : Blo.At ⟨{ h with vals := x }, ⟨h.height, y, []⟩, l⟩ c7 0 w7 (.slice none 0 0) (.slice xa l.length xn) := ⟨HH.out.1.vals' hx, hy, HH.out.1.height, Sl.nil _ _ _ _ _, p7.sl, by simp, HH.out.2.2.1⟩
  have hU : B' ++ ((.int .i64 h.height :: (Y2 ++ [.slice none 0 0])) ++ [.slice xa l.length xn]) = bloC ⟨{ h with vals := x }, ⟨h.height, y, []⟩, l⟩ (.slice none 0 0) (.slice xa l.length xn) := by rw [← hB', ← hY2]; rfl
  have hUl := bloC_len b7.h b7.hash (.slice none 0 0) (.slice xa l.length xn)
  have hU1 := bloC_one b7
  rw [← hU] at hUl hU1
  obtain ⟨U, hUU⟩ : ∃ U, B' ++ ((.int .i64 h.height :: (Y2 ++ [.slice none 0 0])) ++ [.slice xa l.length xn]) = U := ⟨_, rfl⟩
  rw [hUU] at hbu hUl hU1 hU
  have hq1 : q + 1 ≠ 0 := Nat.succ_ne_zero q
  have hZB := HH.out.2.2.2.2.2.2.1
  have hi0 : (Tryz.prog.info? 59).map (·.size) = some U.length := by rw [info_blo, hUl]
  have hi1 : (Tryz.prog.info? 59).map (·.size) = some U.toArray.size := by rw [info_blo]; simp [hUl]
  have ht0 := ab7.there (o := 0) (n := U.toArray.size) o7 hq1 (by simp [hUl, hZB])
  obtain ⟨_, a8⟩ := ab7.st o7 hq1 (ty := 59) (us := U) (by rw [hUl, hZB]) hi0 hU1
  have s8 : Step (One (q + 1)) c7 w7 c7 (w7.setCells (hb + 1) 0 U) := Step.setCells (K := One (q + 1)) (.inr ab7.col) _ _ _ Step.refl
  have b8 := b7.keep s8 (show ¬ 0 = q + 1 by omega)
  have o8 := Ok.setCells (b := hb + 1) U 0 _ o7
  have hqc := HH.out.2.2.2.2.1
  have sAll : Step No c w c7 (w7.setCells (hb + 1) 0 U) := ((((st6.trans sd.ofNo).trans s7.ofNo).trans (s8.mono fun j (e : j = q + 1) => by omega))).drop fun b _ e => by have := hqc b; omega
  have FL := Lib.hid (And.intro ht0 (And.intro hi1 (And.intro (all_oneCell_toArray hU1) (And.intro a8.cells (And.intro hi0 (And.intro b8 (And.intro sAll (And.intro o8 (And.intro hU (And.intro hx hy))))))))))
  clear p7 s7 o7 ab7 st6 sd hY2 hy hx hB' hl1 hYl hCl b7 hU hUl hU1 hUU hq1 hZB hi0 hi1 ht0 a8 s8 b8 o8 hqc sAll X6 VC KN
  go_simp
  refine hK.out _ _ (fun _ => KK) ?_
  clear hK KQ
  (try simp only [Act.put, List.setIfInBounds_toArray, List.set_cons_zero, List.set_cons_succ])
  refine wpAnyM.takeT (i := 7) (v := _) (some 36) rfl rfl (by kernel_rfl) (by kernel_rfl) (by kernel_rfl) (by kernel_rfl) (by kernel_rfl) (fun _ _ _ h => h) (Or.inl ⟨by rfl, fun W hW => by obtain ⟨q0, q1, q2⟩ := hW; exact y_build 59 hbu #[(0, .tmp 29), (2, .tmp 31), (1, .tmp 35)] rfl rfl⟩) KK ?_
  (try simp only [Act.put, List.setIfInBounds_toArray, List.set_cons_zero, List.set_cons_succ])
  refine wpAnyM.one (i := 8) (by kernel_rfl) rfl (fun KQ hK => ?_)
  refine step_store rfl 59 _ _ rfl (hb + 1) 0 U.toArray rfl rfl FL.out.1 FL.out.2.1 FL.out.2.2.1 ?_
  simp only [List.toList_toArray]
  refine hK.out _ _ (fun h => absurd h (by decide)) ?_
  clear hK KQ
  (try simp only [Act.put, List.setIfInBounds_toArray, List.set_cons_zero, List.set_cons_succ])
  refine wpAnyM.one (i := 9) (by kernel_rfl) rfl (fun KQ hK => ?_)
  go_simp
  refine hK.out _ _ (fun h => absurd h (by decide)) ?_
  clear hK KQ
  (try simp only [Act.put, List.setIfInBounds_toArray, List.set_cons_zero, List.set_cons_succ])
  refine wpAnyM.done (by kernel_rfl) ?_ _
  go_wp2_with fail
  obtain ⟨_, _, _, f4, f5, f6, f7, f8, f9, f10, f11⟩ := FL.out
  refine bodyPost_ret (results_cell_mid2' rfl _ _ (hb + 1) 0 U _ rfl f4 Tryz.underlying59 rfl f5) rfl ⟨x, f10, y, f11, _, by rw [f9]; rfl, c7, f6, f7, f8⟩
end
end Go.Proofs.YtgcobbapaaihiaaGreat

set_option linter.unusedVariables false
set_option linter.unusedSimpArgs false
namespace Go.Proofs.YtgcobbapaaihiaaGreat
open Go.RowKit

def zeros : List UInt8 := List.replicate 32 0
/-- The recipe of the law's own chain. -/
def recC (vv : Value) : List Value := [.string ⟨#[97]⟩, .int .i64 3, .int .i64 10, .int .i64 10, vv, .slice none 0 0, .slice none 0 0, .int .i64 0, .int .u8 0]
/-- A block that is built. -/
def bdC (vv mp : Value) (H B : List Value) (sv : Value) : List Value := recC vv ++ (mp :: (H ++ (B ++ [sv])))
def hdr0 (h : Int) (prev : List UInt8) : Hdr := ⟨[97], h, 10 + (h - 1) * 10, prev, zeros, zeros, zeros⟩

theorem header_fill (parts : List (Nat × Value)) : Tryz.prog.built 53 parts = Instr.fill ([(0, 1), (1, 1), (2, 1), (3, 32), (35, 32), (67, 32), (99, 32)].toArray[·]?) (zeroL 53).toArray parts := by kernel_rfl
theorem header_zl : (zeroL 53).length = 131 ∧ (zeroL 53).drop 35 = bC zeros ++ (bC zeros ++ bC zeros) := ⟨by kernel_rfl, by kernel_rfl⟩
theorem header_built (h : Int) (prev : List UInt8) {t : Int} (ht : t = 10 + (h - 1) * 10) (hp : prev.length = 32) : Tryz.prog.built 53 [(0, .string ⟨#[97]⟩), (1, .int .i64 h), (2, .int .i64 t), (3, .agg (bC prev).toArray)] = some (hdrC (hdr0 h prev)).toArray := by
  subst ht
  rw [header_fill]
  obtain ⟨hz, hz2⟩ := header_zl
  obtain ⟨Z, hZ⟩ : ∃ Z, zeroL 53 = Z := ⟨_, rfl⟩
  rw [hZ] at hz hz2 ⊢
  have hpl : (bC prev).length = 32 := by rw [bC_len, hp]
  have e1 := fill_next (place := ([(0, 1), (1, 1), (2, 1), (3, 32), (35, 32), (67, 32), (99, 32)].toArray[·]?)) (Pf := []) (Z := Z) (B := [.string ⟨#[97]⟩]) (i := 0) (v := .string ⟨#[97]⟩) (rest := [(1, .int .i64 h), (2, .int .i64 (10 + (h - 1) * 10)), (3, .agg (bC prev).toArray)]) rfl rfl (by simp [hz])
  rw [List.nil_append] at e1
  rw [e1]
  have e2 := fill_next (place := ([(0, 1), (1, 1), (2, 1), (3, 32), (35, 32), (67, 32), (99, 32)].toArray[·]?)) (Pf := [] ++ [.string ⟨#[97]⟩]) (Z := Z.drop 1) (B := [.int .i64 h]) (i := 1) (v := .int .i64 h) (rest := [(2, .int .i64 (10 + (h - 1) * 10)), (3, .agg (bC prev).toArray)]) rfl rfl (by simp [hz])
  rw [List.length_singleton, e2]
  have e3 := fill_next (place := ([(0, 1), (1, 1), (2, 1), (3, 32), (35, 32), (67, 32), (99, 32)].toArray[·]?)) (Pf := [] ++ [.string ⟨#[97]⟩] ++ [.int .i64 h]) (Z := (Z.drop 1).drop 1) (B := [.int .i64 (10 + (h - 1) * 10)]) (i := 2) (v := .int .i64 (10 + (h - 1) * 10)) (rest := [(3, .agg (bC prev).toArray)]) rfl rfl (by simp [hz])
  rw [List.length_singleton, e3]
  have e4 := fill_next (place := ([(0, 1), (1, 1), (2, 1), (3, 32), (35, 32), (67, 32), (99, 32)].toArray[·]?)) (Pf := [] ++ [.string ⟨#[97]⟩] ++ [.int .i64 h] ++ [.int .i64 (10 + (h - 1) * 10)]) (Z := ((Z.drop 1).drop 1).drop 1) (B := bC prev) (i := 3) (v := .agg (bC prev).toArray) (rest := []) (by rw [hpl]; rfl) rfl (by simp [hz, hpl])
  rw [List.length_singleton, e4, Instr.fill, List.drop_drop, List.drop_drop, List.drop_drop, hpl, show (1 + (1 + (1 + 32)) : Nat) = 35 from rfl, hz2]
  simp [hdrC, hdr0]

section
variable {c : Col} {w : World}

set_option maxRecDepth 100000 in
set_option maxHeartbeats 3200000 in
theorem at_built (hok : Ok c w) {bb kb : Nat} (hkb : kb ≠ 0) {vv mp sv : Value} {H B : List Value} (hH : H.length = 131) (hd : At c w bb kb (bdC vv mp H B sv)) (h : Int) (hh : 1 ≤ h ∧ h ≤ 3) (prev : List UInt8) (hp : prev.length = 32) :
    Calls Tryz.prog 87 #[.pointer (some ⟨bb, 0, none⟩), .int .i64 h, .agg (bC prev).toArray] w fun r w' => r = .returned (.pointer (some ⟨bb, 0, none⟩)) ∧
      ∃ c', At c' w' bb kb (bdC vv mp (hdrC (hdr0 h prev)) B sv) ∧ Step (One kb) c w c' w' ∧ Ok c' w' := by
  have hp2 : (bC prev).length = 32 := by rw [bC_len, hp]
  have ap := At.new0 hok (bC prev) 51
  have op := hok.alloc (.cells (bC prev).toArray 51)
  have sp : Step No c w c (w.alloc (.cells (bC prev).toArray 51)) := Step.refl.alloc _
  obtain ⟨pb, hpb⟩ : ∃ b, w.heap.size = b := ⟨_, rfl⟩
  rw [hpb] at ap
  obtain ⟨P, hP⟩ : ∃ P, bC prev = P := ⟨_, rfl⟩
  have hbu := fun t ht => header_built h prev (t := t) ht hp
  rw [hP] at ap op sp hp2 hbu ⊢
  obtain ⟨W0, hW0⟩ : ∃ W, w.alloc (.cells P.toArray 51) = W := ⟨_, rfl⟩
  rw [hW0] at ap op sp
  have hd0 := hd.kn sp
  have s1 : Step No c W0 c W0.drew := Step.rf.drewN 1
  have o1 : Ok c W0.drew := op.drewN 1
  have hd1 := hd0.kn s1
  have KK : (fun W : World => W.cell? ⟨bb, 0, none⟩ = some (.string ⟨#[97]⟩) ∧ W.cell? ⟨bb, 2, none⟩ = some (.int .i64 10) ∧ W.cell? ⟨bb, 3, none⟩ = some (.int .i64 10) ∧ (Instr.loadAt 51 (.pointer (some ⟨pb, 0, none⟩))).run Tryz.prog W = .ok (.agg P.toArray) W) W0.drew :=
    ⟨hd1.get (i := 0) rfl, hd1.get (i := 2) rfl, hd1.get (i := 3) rfl, (ap.kn s1).ld (ty := 51) Tryz.underlying51 rfl (by rw [info_hash, hp2])⟩
  have hw1 : IntKind.i64.wrap (h - 1) = h - 1 := IntWalk.i64_in _ (by omega)
  have hw2 : IntKind.i64.wrap ((h - 1) * 10) = (h - 1) * 10 := IntWalk.i64_in _ (by omega)
  have hw3 : IntKind.i64.wrap (10 + (h - 1) * 10) = 10 + (h - 1) * 10 := IntWalk.i64_in _ (by omega)
  have hbu := hbu _ rfl
  have hHl : (hdrC (hdr0 h prev)).length = 131 := by simp [hdrC, hdr0, bC_len, hp, zeros]
  have hH1 := hdrC_one (hdr0 h prev)
  obtain ⟨H', hH'⟩ : ∃ H', hdrC (hdr0 h prev) = H' := ⟨_, rfl⟩
  rw [hH'] at hbu hHl hH1 ⊢
  have hd1' : At c W0.drew bb kb ((recC vv ++ [mp]) ++ (H ++ (B ++ [sv]))) := by
    have e : bdC vv mp H B sv = (recC vv ++ [mp]) ++ (H ++ (B ++ [sv])) := by simp [bdC]
    rw [← e]; exact hd1
  obtain ⟨a2, t0⟩ := hd1'.seg o1 hkb (us := H') (by omega)
  have e10 : (recC vv ++ [mp]).length = 10 := rfl
  rw [e10] at a2 t0
  have e2 : (recC vv ++ [mp]) ++ (H' ++ (B ++ [sv])) = bdC vv mp H' B sv := by simp [bdC]
  rw [e2] at a2
  have s2 : Step (One kb) c W0.drew c (W0.drew.setCells bb 10 H') := Step.setCells (K := One kb) (.inr hd1.col) _ _ _ Step.refl
  have o2 := Ok.setCells (b := bb) H' 10 _ o1
  have y7 : (W0.drew.setCells bb 10 H').cell? ⟨bb, 7, none⟩ = some (.int .i64 0) := a2.get (i := 7) rfl
  have FL := Lib.hid (And.intro (show W0.drew.there bb 10 H'.toArray.size by simpa using t0) (And.intro (show (Tryz.prog.info? 53).map (·.size) = some H'.toArray.size by rw [info_hdr]; simp [hHl]) (And.intro (all_oneCell_toArray hH1) (And.intro a2 (And.intro (((sp.trans s1).ofNo (K := One kb)).trans s2) o2)))))
  clear ap op sp hd hd0 s1 o1 hd1 hd1' a2 t0 s2 o2 hok hp hp2 hHl hH1 hP hH' hH e2 e10
  go_enter Tryz.func87, Tryz.ntmps87
  go_wp2_with fail
  (try rw [hW0])
  (try rw [hpb])
  refine region_planM (fun W => W.cell? ⟨bb, 0, none⟩ = some (.string ⟨#[97]⟩) ∧ W.cell? ⟨bb, 2, none⟩ = some (.int .i64 10) ∧ W.cell? ⟨bb, 3, none⟩ = some (.int .i64 10) ∧ (Instr.loadAt 51 (.pointer (some ⟨pb, 0, none⟩))).run Tryz.prog W = .ok (.agg P.toArray) W) (fun i => !([25] : List Nat).contains i) (by kernel_rfl) ?_
  refine wpAnyM.takeT (i := 0) (v := _) (some 7) rfl rfl (by kernel_rfl) (by kernel_rfl) (by kernel_rfl) (by kernel_rfl) (by kernel_rfl) (fun _ _ _ h => h) (Or.inl ⟨by rfl, fun W hW => by first | (obtain ⟨q0, q1, q2, q3⟩ := hW; go_simp <;> rfl) | (obtain ⟨q0, q1, q2, q3⟩ := hW; go_simp; done)⟩) KK ?_
  (try simp only [Act.put, List.setIfInBounds_toArray, List.set_cons_zero, List.set_cons_succ])
  refine wpAnyM.takeT (i := 1) (v := _) (some 8) rfl rfl (by kernel_rfl) (by kernel_rfl) (by kernel_rfl) (by kernel_rfl) (by kernel_rfl) (fun _ _ _ h => h) (Or.inl ⟨by rfl, fun W hW => by first | (obtain ⟨q0, q1, q2, q3⟩ := hW; go_simp <;> rfl) | (obtain ⟨q0, q1, q2, q3⟩ := hW; go_simp; done)⟩) KK ?_
  (try simp only [Act.put, List.setIfInBounds_toArray, List.set_cons_zero, List.set_cons_succ])
  refine wpAnyM.takeT (i := 2) (v := _) (some 9) rfl rfl (by kernel_rfl) (by kernel_rfl) (by kernel_rfl) (by kernel_rfl) (by kernel_rfl) (fun _ _ _ h => h) (Or.inl ⟨by rfl, fun W hW => by first | (obtain ⟨q0, q1, q2, q3⟩ := hW; go_simp <;> rfl) | (obtain ⟨q0, q1, q2, q3⟩ := hW; go_simp; done)⟩) KK ?_
  (try simp only [Act.put, List.setIfInBounds_toArray, List.set_cons_zero, List.set_cons_succ])
  refine wpAnyM.takeT (i := 3) (v := _) (some 10) rfl rfl (by kernel_rfl) (by kernel_rfl) (by kernel_rfl) (by kernel_rfl) (by kernel_rfl) (fun _ _ _ h => h) (Or.inl ⟨by rfl, fun W hW => by first | (obtain ⟨q0, q1, q2, q3⟩ := hW; go_simp <;> rfl) | (obtain ⟨q0, q1, q2, q3⟩ := hW; go_simp; done)⟩) KK ?_
  (try simp only [Act.put, List.setIfInBounds_toArray, List.set_cons_zero, List.set_cons_succ])
  refine wpAnyM.takeT (i := 4) (v := _) (some 11) rfl rfl (by kernel_rfl) (by kernel_rfl) (by kernel_rfl) (by kernel_rfl) (by kernel_rfl) (fun _ _ _ h => h) (Or.inl ⟨by rfl, fun W hW => by first | (obtain ⟨q0, q1, q2, q3⟩ := hW; go_simp <;> rfl) | (obtain ⟨q0, q1, q2, q3⟩ := hW; go_simp; done)⟩) KK ?_
  (try simp only [Act.put, List.setIfInBounds_toArray, List.set_cons_zero, List.set_cons_succ])
  refine wpAnyM.takeT (i := 5) (v := _) (some 12) rfl rfl (by kernel_rfl) (by kernel_rfl) (by kernel_rfl) (by kernel_rfl) (by kernel_rfl) (fun _ _ _ h => h) (Or.inl ⟨by rfl, fun W hW => by first | (obtain ⟨q0, q1, q2, q3⟩ := hW; go_simp <;> rfl) | (obtain ⟨q0, q1, q2, q3⟩ := hW; go_simp; done)⟩) KK ?_
  (try simp only [Act.put, List.setIfInBounds_toArray, List.set_cons_zero, List.set_cons_succ])
  refine wpAnyM.takeT (i := 6) (v := _) (some 13) rfl rfl (by kernel_rfl) (by kernel_rfl) (by kernel_rfl) (by kernel_rfl) (by kernel_rfl) (fun _ _ _ h => h) (Or.inl ⟨by rfl, fun W hW => by first | (obtain ⟨q0, q1, q2, q3⟩ := hW; go_simp <;> rfl) | (obtain ⟨q0, q1, q2, q3⟩ := hW; go_simp; done)⟩) KK ?_
  (try simp only [Act.put, List.setIfInBounds_toArray, List.set_cons_zero, List.set_cons_succ])
  refine wpAnyM.takeT (i := 7) (v := _) (some 14) rfl rfl (by kernel_rfl) (by kernel_rfl) (by kernel_rfl) (by kernel_rfl) (by kernel_rfl) (fun _ _ _ h => h) (Or.inl ⟨by rfl, fun W hW => by first | (obtain ⟨q0, q1, q2, q3⟩ := hW; go_simp <;> rfl) | (obtain ⟨q0, q1, q2, q3⟩ := hW; go_simp; done)⟩) KK ?_
  (try simp only [Act.put, List.setIfInBounds_toArray, List.set_cons_zero, List.set_cons_succ])
  refine wpAnyM.takeT (i := 8) (v := _) (some 15) rfl rfl (by kernel_rfl) (by kernel_rfl) (by kernel_rfl) (by kernel_rfl) (by kernel_rfl) (fun _ _ _ h => h) (Or.inl ⟨by rfl, fun W hW => by first | (obtain ⟨q0, q1, q2, q3⟩ := hW; go_simp <;> rfl) | (obtain ⟨q0, q1, q2, q3⟩ := hW; go_simp; done)⟩) KK ?_
  (try simp only [Act.put, List.setIfInBounds_toArray, List.set_cons_zero, List.set_cons_succ])
  refine wpAnyM.takeT (i := 9) (v := _) (some 16) rfl rfl (by kernel_rfl) (by kernel_rfl) (by kernel_rfl) (by kernel_rfl) (by kernel_rfl) (fun _ _ _ h => h) (Or.inl ⟨by rfl, fun W hW => by first | (obtain ⟨q0, q1, q2, q3⟩ := hW; go_simp <;> rfl) | (obtain ⟨q0, q1, q2, q3⟩ := hW; go_simp; done)⟩) KK ?_
  (try simp only [Act.put, List.setIfInBounds_toArray, List.set_cons_zero, List.set_cons_succ])
  refine wpAnyM.takeT (i := 10) (v := _) (some 17) rfl rfl (by kernel_rfl) (by kernel_rfl) (by kernel_rfl) (by kernel_rfl) (by kernel_rfl) (fun _ _ _ h => h) (Or.inl ⟨by rfl, fun W hW => by first | (obtain ⟨q0, q1, q2, q3⟩ := hW; go_simp <;> rfl) | (obtain ⟨q0, q1, q2, q3⟩ := hW; go_simp; done)⟩) KK ?_
  (try simp only [Act.put, List.setIfInBounds_toArray, List.set_cons_zero, List.set_cons_succ])
  refine wpAnyM.takeT (i := 11) (v := _) (some 18) rfl rfl (by kernel_rfl) (by kernel_rfl) (by kernel_rfl) (by kernel_rfl) (by kernel_rfl) (fun _ _ _ h => h) (Or.inl ⟨by rfl, fun W hW => by first | (obtain ⟨q0, q1, q2, q3⟩ := hW; go_simp <;> rfl) | (obtain ⟨q0, q1, q2, q3⟩ := hW; go_simp; done)⟩) KK ?_
  (try simp only [Act.put, List.setIfInBounds_toArray, List.set_cons_zero, List.set_cons_succ])
  refine wpAnyM.takeT (i := 12) (v := _) (some 19) rfl rfl (by kernel_rfl) (by kernel_rfl) (by kernel_rfl) (by kernel_rfl) (by kernel_rfl) (fun _ _ _ h => h) (Or.inl ⟨by rfl, fun W hW => by first | (obtain ⟨q0, q1, q2, q3⟩ := hW; go_simp <;> rfl) | (obtain ⟨q0, q1, q2, q3⟩ := hW; go_simp; done)⟩) KK ?_
  (try simp only [Act.put, List.setIfInBounds_toArray, List.set_cons_zero, List.set_cons_succ])
  refine wpAnyM.takeT (i := 13) (v := _) (some 20) rfl rfl (by kernel_rfl) (by kernel_rfl) (by kernel_rfl) (by kernel_rfl) (by kernel_rfl) (fun _ _ _ h => h) (Or.inl ⟨by rfl, fun W hW => by first | (obtain ⟨q0, q1, q2, q3⟩ := hW; go_simp <;> rfl) | (obtain ⟨q0, q1, q2, q3⟩ := hW; go_simp; done)⟩) KK ?_
  (try simp only [Act.put, List.setIfInBounds_toArray, List.set_cons_zero, List.set_cons_succ])
  refine wpAnyM.takeT (i := 14) (v := _) (some 21) rfl rfl (by kernel_rfl) (by kernel_rfl) (by kernel_rfl) (by kernel_rfl) (by kernel_rfl) (fun _ _ _ h => h) (Or.inl ⟨by rfl, fun W hW => by first | (obtain ⟨q0, q1, q2, q3⟩ := hW; go_simp <;> rfl) | (obtain ⟨q0, q1, q2, q3⟩ := hW; go_simp; done)⟩) KK ?_
  (try simp only [Act.put, List.setIfInBounds_toArray, List.set_cons_zero, List.set_cons_succ])
  refine wpAnyM.takeT (i := 15) (v := _) (some 22) rfl rfl (by kernel_rfl) (by kernel_rfl) (by kernel_rfl) (by kernel_rfl) (by kernel_rfl) (fun _ _ _ h => h) (Or.inl ⟨by rfl, fun W hW => by first | (obtain ⟨q0, q1, q2, q3⟩ := hW; go_simp <;> rfl) | (obtain ⟨q0, q1, q2, q3⟩ := hW; go_simp; done)⟩) KK ?_
  (try simp only [Act.put, List.setIfInBounds_toArray, List.set_cons_zero, List.set_cons_succ])
  refine wpAnyM.takeT (i := 16) (v := _) (some 23) rfl rfl (by kernel_rfl) (by kernel_rfl) (by kernel_rfl) (by kernel_rfl) (by kernel_rfl) (fun _ _ _ h => h) (Or.inl ⟨by rfl, fun W hW => by first | (obtain ⟨q0, q1, q2, q3⟩ := hW; go_simp <;> rfl) | (obtain ⟨q0, q1, q2, q3⟩ := hW; go_simp; done)⟩) KK ?_
  (try simp only [Act.put, List.setIfInBounds_toArray, List.set_cons_zero, List.set_cons_succ])
  refine wpAnyM.takeT (i := 17) (v := _) (some 24) rfl rfl (by kernel_rfl) (by kernel_rfl) (by kernel_rfl) (by kernel_rfl) (by kernel_rfl) (fun _ _ _ h => h) (Or.inl ⟨by rfl, fun W hW => by first | (obtain ⟨q0, q1, q2, q3⟩ := hW; go_simp <;> rfl) | (obtain ⟨q0, q1, q2, q3⟩ := hW; go_simp; done)⟩) KK ?_
  (try simp only [Act.put, List.setIfInBounds_toArray, List.set_cons_zero, List.set_cons_succ])
  refine wpAnyM.takeT (i := 18) (v := _) (some 25) rfl rfl (by kernel_rfl) (by kernel_rfl) (by kernel_rfl) (by kernel_rfl) (by kernel_rfl) (fun _ _ _ h => h) (Or.inl ⟨by rfl, fun W hW => by first | (obtain ⟨q0, q1, q2, q3⟩ := hW; go_simp <;> rfl) | (obtain ⟨q0, q1, q2, q3⟩ := hW; go_simp; done)⟩) KK ?_
  (try simp only [Act.put, List.setIfInBounds_toArray, List.set_cons_zero, List.set_cons_succ])
  refine wpAnyM.takeT (i := 19) (v := _) (some 26) rfl rfl (by kernel_rfl) (by kernel_rfl) (by kernel_rfl) (by kernel_rfl) (by kernel_rfl) (fun _ _ _ h => h) (Or.inl ⟨by rfl, fun W hW => by first | (obtain ⟨q0, q1, q2, q3⟩ := hW; go_simp <;> rfl) | (obtain ⟨q0, q1, q2, q3⟩ := hW; go_simp; done)⟩) KK ?_
  (try simp only [Act.put, List.setIfInBounds_toArray, List.set_cons_zero, List.set_cons_succ])
  refine wpAnyM.takeT (i := 20) (v := _) (some 27) rfl rfl (by kernel_rfl) (by kernel_rfl) (by kernel_rfl) (by kernel_rfl) (by kernel_rfl) (fun _ _ _ h => h) (Or.inl ⟨by rfl, fun W hW => by first | (obtain ⟨q0, q1, q2, q3⟩ := hW; go_simp <;> rfl) | (obtain ⟨q0, q1, q2, q3⟩ := hW; go_simp; done)⟩) KK ?_
  (try simp only [Act.put, List.setIfInBounds_toArray, List.set_cons_zero, List.set_cons_succ])
  refine wpAnyM.takeT (i := 21) (v := _) (some 28) rfl rfl (by kernel_rfl) (by kernel_rfl) (by kernel_rfl) (by kernel_rfl) (by kernel_rfl) (fun _ _ _ h => h) (Or.inl ⟨by rfl, fun W hW => by obtain ⟨q0, q1, q2, q3⟩ := hW; exact y_load 51 q3 (.tmp 5) rfl rfl⟩) KK ?_
  (try simp only [Act.put, List.setIfInBounds_toArray, List.set_cons_zero, List.set_cons_succ])
  refine wpAnyM.takeT (i := 22) (v := _) (some 29) rfl rfl (by kernel_rfl) (by kernel_rfl) (by kernel_rfl) (by kernel_rfl) (by kernel_rfl) (fun _ _ _ h => h) (Or.inl ⟨by rfl, fun W hW => by obtain ⟨q0, q1, q2, q3⟩ := hW; exact y_build 53 hbu #[(0, .tmp 12), (1, .tmp 13), (2, .tmp 27), (3, .tmp 28)] rfl rfl⟩) KK ?_
  (try simp only [Act.put, List.setIfInBounds_toArray, List.set_cons_zero, List.set_cons_succ])
  refine wpAnyM.takeT (i := 23) (v := _) (some 30) rfl rfl (by kernel_rfl) (by kernel_rfl) (by kernel_rfl) (by kernel_rfl) (by kernel_rfl) (fun _ _ _ h => h) (Or.inl ⟨by rfl, fun W hW => by first | (obtain ⟨q0, q1, q2, q3⟩ := hW; go_simp <;> rfl) | (obtain ⟨q0, q1, q2, q3⟩ := hW; go_simp; done)⟩) KK ?_
  (try simp only [Act.put, List.setIfInBounds_toArray, List.set_cons_zero, List.set_cons_succ])
  refine wpAnyM.takeT (i := 24) (v := _) (some 31) rfl rfl (by kernel_rfl) (by kernel_rfl) (by kernel_rfl) (by kernel_rfl) (by kernel_rfl) (fun _ _ _ h => h) (Or.inl ⟨by rfl, fun W hW => by first | (obtain ⟨q0, q1, q2, q3⟩ := hW; go_simp <;> rfl) | (obtain ⟨q0, q1, q2, q3⟩ := hW; go_simp; done)⟩) KK ?_
  (try simp only [Act.put, List.setIfInBounds_toArray, List.set_cons_zero, List.set_cons_succ])
  refine wpAnyM.one (i := 25) (by kernel_rfl) rfl (fun KQ hK => ?_)
  refine step_store rfl 53 _ _ rfl bb 10 H'.toArray rfl rfl FL.out.1 FL.out.2.1 FL.out.2.2.1 ?_
  simp only [List.toList_toArray]
  refine hK.out _ _ (fun h => absurd h (by decide)) ?_
  clear hK KQ
  (try simp only [Act.put, List.setIfInBounds_toArray, List.set_cons_zero, List.set_cons_succ])
  refine wpAnyM.done (by kernel_rfl) ?_ _
  go_wp2_with fail
  go_ret
  exact ⟨rfl, c, FL.out.2.2.2.1, FL.out.2.2.2.2.1, FL.out.2.2.2.2.2⟩
end
end Go.Proofs.YtgcobbapaaihiaaGreat
