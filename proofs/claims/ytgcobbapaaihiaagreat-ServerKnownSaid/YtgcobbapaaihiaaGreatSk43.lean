/- ServerKnown, part 43: lemmas, each with its own conditions. -/
import Derived.Test.YtgcobbapaaihiaaGreatSk35
import Derived.Test.YtgcobbapaaihiaaGreatSk42
set_option linter.unusedVariables false
set_option linter.unusedSimpArgs false
namespace Go.Proofs.YtgcobbapaaihiaaGreat
open Go.RowKit

theorem block_built1 {H : List Value} (hH : H.length = 131) : ∃ R : List Value, R.length = 35 ∧ (∀ u ∈ R, u.oneCell' = true) ∧ Tryz.prog.built 59 [(0, .agg H.toArray)] = some (H ++ R).toArray := by
  rw [block_fill]
  have hz := block_zl
  have h1 : ∀ u ∈ (zeroL 59).drop 131, u.oneCell' = true := by
    have : ((zeroL 59).drop 131).all (·.oneCell') = true := by kernel_rfl
    exact fun u hu => List.all_eq_true.1 this u hu
  obtain ⟨Z, hZ⟩ : ∃ Z, zeroL 59 = Z := ⟨_, rfl⟩
  rw [hZ] at hz h1 ⊢
  refine ⟨Z.drop 131, by simp [hz], h1, ?_⟩
  have e1 := fill_next (place := ([(0, 131), (131, 34), (165, 1)].toArray[·]?)) (Pf := []) (Z := Z) (B := H) (i := 0) (v := .agg H.toArray) (rest := []) (by rw [hH]; rfl) rfl (by omega)
  rw [List.nil_append, List.nil_append] at e1
  rw [e1, Instr.fill, hH]

theorem encB_fit {h : Int} {b : Blo} (hf : Fit h b) : ∃ y wd : List UInt8, y.length = 32 ∧ wd.length = 8 ∧ b.cm.hash = y ∧ encB b = lpB (encH b.h) ++ (lpB (encC1 h y wd) ++ (lpB (encV l1) ++ [])) := by
  obtain ⟨p, z, x, y, hp, hz, hx, hy, rfl⟩ := hf
  refine ⟨y, wordB (64 * h).toNat, hy, wordL_len _ _, rfl, ?_⟩
  simp [encB, encC, encC1, blo3]

section
variable {c : Col} {w : World}

set_option maxRecDepth 100000 in
set_option maxHeartbeats 6400000 in
theorem blockD_ok (hok : Ok c w) {h : Int} (hh : 1 ≤ h ∧ h ≤ 3) {b : Blo} (hf : Fit h b) {kx : Nat} {v : Value} (hv : Sl TByte c kx 0 w v (encB b)) :
    Calls Tryz.prog 58 #[v] w fun r w' => ∃ R : List Value, r = .returned (.tuple #[.agg (hdrC b.h ++ R).toArray, .agg #[.int .i64 0, .int .i64 0]]) ∧ R.length = 35 ∧ (∀ u ∈ R, u.oneCell' = true) ∧ ∃ c', Step No c w c' w' ∧ Ok c' w' := by
  obtain ⟨q, hq, hqc⟩ := hok.top kx
  have hq0 : q ≠ 0 := by omega
  have hwf : b.h.Wf ∧ checkH b.h = 0 ∧ heightB h = true := by
    obtain ⟨p, z, x, y, hp, hz, hx, hy, rfl⟩ := hf
    refine ⟨(hdr1_wf hh hp hz).vals' hx, ?_, ?_⟩
    · exact hdr1_check hh p z
    · simp [heightB]; omega
  obtain ⟨y, wd, hy, hwd, hyb, hE⟩ := encB_fit hf
  obtain ⟨ZB, hZB, zB⟩ := zero_block
  obtain ⟨ar, or_, sr⟩ := newAt hok ZB 59 (q + 1)
  obtain ⟨af, of_, sf⟩ := newAt or_ [.int .i64 0, .int .i64 0] 74 (q + 2)
  rw [World.size_alloc] at af of_ sf
  obtain ⟨rb, hrb⟩ : ∃ b, w.heap.size = b := ⟨_, rfl⟩
  rw [hrb] at ar or_ sr af of_ sf
  have ar1 := ar.kn sf
  have s1 := sr.trans sf
  have hv1 := hv.kn s1
  obtain ⟨W1, hW1⟩ : ∃ W, (w.alloc (.cells ZB.toArray 59)).alloc (.cells #[.int .i64 0, .int .i64 0] 74) = W := ⟨_, rfl⟩
  have hW1' : (w.alloc (.cells ZB.toArray 59)).alloc (.cells ([Value.int .i64 0, .int .i64 0] : List Value).toArray 74) = W1 := hW1
  rw [hW1'] at ar1 s1 hv1 af of_
  have hHl : (encH b.h).length ≤ 190 := encH_len hwf.1 hwf.2.1
  have hCl : (encC1 h y wd).length ≤ 100 := by
    have h1 := numB_len h.toNat
    have h2 := numB_len 1
    have h3 := numB_len 0
    simp [encC1, hy, hwd]; omega
  have hVl : (encV l1).length ≤ 100 := by decide
  have hbl : (encB b).length ≤ 1000 := by
    have h1 := numB_len (encH b.h).length
    have h2 := numB_len (encC1 h y wd).length
    have h3 := numB_len (encV l1).length
    rw [hE]; simp [lpB]; omega
  obtain ⟨bs, hbs⟩ : ∃ bs, encB b = bs := ⟨_, rfl⟩
  rw [hbs] at hv hv1 hbl hE
  have NR := newReader_any of_ hv1 (by omega) q
  obtain ⟨va, vd, rfl, _⟩ := hv.form
  have HB := Lib.hid (And.intro hqc (And.intro hZB (And.intro zB (And.intro hwf (And.intro hy (And.intro hwd (And.intro hE (And.intro hHl (And.intro hCl (And.intro hVl (decH b.h hwf.1 hwf.2.1)))))))))))
  have X := Lib.hid (And.intro ar1 (And.intro af s1))
  clear ar or_ sr af of_ sf ar1 s1 hv1 hv hok hqc hZB zB hwf hy hwd hE hHl hCl hVl hbs hyb hf
  go_enter Tryz.func58, Tryz.ntmps58
  go_wp2_with (refine wpList_alloc_zero rfl (some 2) rfl 59 rfl HB.out.2.2.1 ?_)
  (try simp only [World.size_alloc])
  (try rw [hrb])
  (try rw [hW1])
  with_reducible refine NR.mono ?_
  rintro e w2 ⟨p, rfl, c2, i2, s2, o2, _⟩
  obtain ⟨hqc, hZB, zB, hwf, hy, hwd, hE, hHl, hCl, hVl, hD, hDC⟩ := HB.out
  obtain ⟨xr, xf, xs⟩ := X.out
  obtain ⟨ag, og, sg⟩ := newAt o2 [.int .i64 0, .int .i64 0] 74 (q + 3)
  obtain ⟨fb, hfb⟩ : ∃ b, w2.heap.size = b := ⟨_, rfl⟩
  rw [hfb] at ag og sg
  obtain ⟨W3, hW3⟩ : ∃ W, w2.alloc (.cells #[.int .i64 0, .int .i64 0] 74) = W := ⟨_, rfl⟩
  have hW3' : w2.alloc (.cells ([Value.int .i64 0, .int .i64 0] : List Value).toArray 74) = W3 := hW3
  rw [hW3'] at ag og sg
  have PH := partH_any og hq0 (i2.kn sg) ag (show ¬ q + 3 = q by omega) hD hDC (rest := lpB (encC1 h y wd) ++ (lpB (encV l1) ++ [])) (by rw [List.drop_zero, hE]; simp [lpB]) (by omega)
  have s3 := s2.trans sg
  have X3 := Lib.hid (And.intro (xr.kn s3) (And.intro (xf.kn s3) (And.intro ag (xs.trans s3))))
  clear NR X i2 s2 o2 xr xf xs ag og sg s3 hqc hZB zB hwf hy hwd hE hHl hCl hVl hD hDC hW3'
  go_wp2_with fail
  (try rw [hfb])
  (try rw [hW3])
  with_reducible refine PH.mono ?_
  rintro e w4 ⟨_, rfl, c4, rfl, i4, s4, o4⟩
  obtain ⟨hqc, hZB, zB, hwf, hy, hwd, hE, hHl, hCl, hVl, _, hDC⟩ := HB.out
  obtain ⟨xr, xf, xg, xs⟩ := X3.out
  have hHl2 := hdrC_len hwf.1
  have hH1 := hdrC_one b.h
  obtain ⟨R0, hR0, hR1, hbu⟩ := block_built1 hHl2
  obtain ⟨W5, c5, hW5, a5, o5, s5, t1, t2, t3, t4⟩ := stnew o4 hZB (show (hdrC b.h ++ R0).length = 166 by rw [List.length_append, hHl2, hR0]) (fun u hu => by rcases List.mem_append.1 hu with hu | hu; exact hH1 u hu; exact hR1 u hu) info_blo (q := q + 4) (Nat.succ_ne_zero _)
  obtain ⟨xb, hxb⟩ : ∃ b, w4.heap.size = b := ⟨_, rfl⟩
  rw [hxb] at hW5 a5 t1
  have hd1 : bs.drop (0 + (numB (encH b.h).length ++ encH b.h).length) = numB (encC1 h y wd).length ++ (encC1 h y wd ++ (lpB (encV l1) ++ [])) := by
    rw [Nat.zero_add, hE]
    have : lpB (encC1 h y wd) ++ (lpB (encV l1) ++ []) = numB (encC1 h y wd).length ++ (encC1 h y wd ++ (lpB (encV l1) ++ [])) := by simp [lpB]
    rw [← this]
    exact List.drop_left
  have n4 : ¬ q + 1 = q := by omega
  have n5 : ¬ q + 2 = q := by omega
  have n6 : ¬ q + 3 = q := by omega
  obtain ⟨dC, dCC⟩ := decCm (y := y) (wd := wd) hwf.2.2 hy hwd
  have PC := partC_any o5 hq0 (i4.kn s5) ((xg.keep s4 n6).kn s5) n6 dC dCC hd1 (by omega)
  obtain ⟨A1, hA1⟩ : ∃ a, 0 + (numB (encH b.h).length ++ encH b.h).length = a := ⟨_, rfl⟩
  rw [hA1] at PC hd1
  have X5 := Lib.hid (And.intro ((xr.keep s4 n4).kn s5) (And.intro ((xf.keep s4 n5).kn s5) (And.intro ((xg.keep s4 n6).kn s5) (And.intro ((xs.ofNo.trans s4).trans s5.ofNo) (And.intro a5 (And.intro hd1 (And.intro hR0 (And.intro hR1 hA1))))))))
  obtain ⟨H, hH⟩ : ∃ H, hdrC b.h = H := ⟨_, rfl⟩
  rw [hH] at hbu hW5 t1 t2 t3 t4 X5 ⊢
  obtain ⟨U0, hU0⟩ : ∃ U, H ++ R0 = U := ⟨_, rfl⟩
  rw [hU0] at hbu hW5 t1 t2 t3 t4
  have T := Lib.hid (And.intro t1 (And.intro t2 (And.intro t3 hW5)))
  have HH := Lib.hid (And.intro hH (And.intro hU0 (And.intro (show H.length = 131 by rw [← hH]; exact hHl2) (show ∀ u ∈ H, u.oneCell' = true by rw [← hH]; exact hH1))))
  clear PH X3 i4 s4 o4 hqc hZB zB hwf hy hwd hE hHl hCl hVl hDC xr xf xg xs hHl2 hH1 hR0 hR1 hW5 a5 o5 s5 t1 t2 t3 t4 hd1 n4 n5 n6 dC dCC hH hU0 hA1
  go_wp2_with (first | (refine wpList_alloc_zero rfl (some 6) rfl 59 rfl HB.out.2.2.1 ?_; rw [hxb]) | (refine wpList_build_ps rfl (some 13) rfl 59 #[(0, .tmp 12)] rfl U0 (ps := [(0, .agg H.toArray)]) (by first | rfl | (simp [Act.eval]; done)) hbu ?_) | (refine wpList_store_mid rfl 59 _ _ rfl xb 0 U0.toArray rfl rfl T.out.1 T.out.2.1 T.out.2.2.1 ?_; rw [T.out.2.2.2]))
  with_reducible refine PC.mono ?_
  rintro e w6 ⟨_, rfl, c6, ⟨sg, u, rfl, slu⟩, i6, s6, o6⟩
  obtain ⟨hqc, hZB, zB, hwf, hy, hwd, hE, hHl, hCl, hVl, _, hDC⟩ := HB.out
  obtain ⟨xr, xf, xg, xs, xa, hd1, hR0, hR1, hA1⟩ := X5.out
  obtain ⟨hH, hU0, hHl2, hH1⟩ := HH.out
  have n4 : ¬ q + 1 = q := by omega
  have n5 : ¬ q + 2 = q := by omega
  have n6 : ¬ q + 3 = q := by omega
  have n7 : ¬ q + 4 = q := by omega
  have hu1 : u.oneCell' = true := by obtain ⟨ua, un, rfl, _⟩ := slu.form; rfl
  have hMl := cmCells_len h hy u
  have hM1 : ∀ v ∈ cmCells h y u, v.oneCell' = true := cmC_one (x := ⟨h, y, []⟩) hu1
  obtain ⟨M, hM⟩ : ∃ M, cmCells h y u = M := ⟨_, rfl⟩
  rw [hM] at hMl hM1 ⊢
  have xa6 := xa.keep s6 n7
  have eS : H ++ R0 = H ++ (R0.take 34 ++ R0.drop 34) := by rw [List.take_append_drop]
  rw [eS] at xa6
  obtain ⟨a7, t7⟩ := xa6.seg o6 (Nat.succ_ne_zero _) (us := M) (by rw [hMl, List.length_take, hR0]; omega)
  rw [hHl2] at a7 t7
  have s7 : Step (One (q + 4)) c6 w6 c6 (w6.setCells xb 131 M) := Step.setCells (K := One (q + 4)) (.inr xa6.col) _ _ _ Step.refl
  have o7 := Ok.setCells (b := xb) M 131 _ o6
  have i7 := i6.keep s7 (show ¬ q = q + 4 by omega) (show ¬ 0 = q + 4 by omega)
  have xr7 := (xr.keep s6 n4).keep s7 (show ¬ q + 1 = q + 4 by omega)
  have xf7 := (xf.keep s6 n5).keep s7 (show ¬ q + 2 = q + 4 by omega)
  have xg7 := (xg.keep s6 n6).keep s7 (show ¬ q + 3 = q + 4 by omega)
  have xs7 : Step (fun j => q ≤ j) c w c6 (w6.setCells xb 131 M) := ((xs.trans s6).mono fun j (e : j = q) => by omega).trans (s7.mono fun j (e : j = q + 4) => by omega)
  obtain ⟨W7, hW7⟩ : ∃ W, w6.setCells xb 131 M = W := ⟨_, rfl⟩
  rw [hW7] at a7 s7 o7 i7 xr7 xf7 xg7 xs7
  have hd2 : bs.drop (A1 + (numB (encC1 h y wd).length ++ encC1 h y wd).length) = numB (encV l1).length ++ (encV l1 ++ []) := by
    rw [← List.drop_drop, hd1, ← List.append_assoc]
    have : lpB (encV l1) ++ [] = numB (encV l1).length ++ (encV l1 ++ []) := by simp [lpB]
    rw [← this]
    exact List.drop_left
  have PV := partV_any o7 hq0 i7 xg7 n6 decV hd2 (by omega)
  have hl7 : (H ++ (M ++ R0.drop 34)).length = 166 := by rw [List.length_append, List.length_append, hHl2, hMl, List.length_drop, hR0]
  have X7 := Lib.hid (And.intro xr7 (And.intro xf7 (And.intro xg7 (And.intro xs7 (And.intro a7 (And.intro hl7 (And.intro hd2 (And.intro hM (And.intro hMl (And.intro hM1 (And.intro hR0 hR1)))))))))))
  have T7 := Lib.hid (And.intro (show w6.there xb 131 M.toArray.size by simpa using t7) (And.intro (show (Tryz.prog.info? 56).map (·.size) = some M.toArray.size by rw [info_cmt]; simp [hMl]) (And.intro (all_oneCell_toArray hM1) hW7)))
  clear PC X5 T slu i6 s6 o6 xr xf xg xs xa hd1 hR0 hR1 hA1 xa6 eS a7 t7 s7 o7 i7 xr7 xf7 xg7 xs7 hd2 hl7 hMl hM1 hu1 hM hW7 hqc hZB zB hwf hy hwd hE hHl hCl hVl hDC hH hU0 hHl2 hH1 n4 n5 n6 n7
  go_wp2_with (refine wpList_store_mid rfl 56 _ _ rfl xb 131 M.toArray rfl rfl T7.out.1 T7.out.2.1 T7.out.2.2.1 ?_; rw [T7.out.2.2.2])
  with_reducible refine PV.mono ?_
  rintro e w8 ⟨V, rfl, c8, slV, i8, s8, o8⟩
  obtain ⟨hqc, hZB, zB, hwf, hy, hwd, hE, hHl, hCl, hVl, _, hDC⟩ := HB.out
  obtain ⟨xr, xf, xg, xs, xa, hl7, hd2, hM, hMl, hM1, hR0, hR1⟩ := X7.out
  obtain ⟨hH, hU0, hHl2, hH1⟩ := HH.out
  have n4 : ¬ q + 1 = q := by omega
  have n5 : ¬ q + 2 = q := by omega
  have n6 : ¬ q + 3 = q := by omega
  have n7 : ¬ q + 4 = q := by omega
  have hV1 : V.oneCell' = true := by obtain ⟨a, m, rfl, _⟩ := slV.form; rfl
  obtain ⟨Va, Vn, rfl, _⟩ := slV.form
  have hll : l1.length = 1 := rfl
  rw [hll] at hV1 slV ⊢
  have xa8 := xa.keep s8 n7
  obtain ⟨r0, hr0⟩ : ∃ r, R0.drop 34 = [r] := by
    have h1 : (R0.drop 34).length = 1 := by rw [List.length_drop, hR0]
    match hx : R0.drop 34, h1 with
    | [r], _ => exact ⟨r, rfl⟩
  have y165 : w8.cell? ⟨xb, 165, none⟩ = some r0 := xa8.get (i := 165) (by
    rw [hr0, ← List.append_assoc, List.getElem?_append_right (by rw [List.length_append, hHl2, hMl]; omega), List.length_append, hHl2, hMl]; rfl)
  have yf := xa8.fz o8 (Nat.succ_ne_zero _) 165
  have a9 := xa8.setN (i := 165) (by rw [hl7]; omega) (.slice Va 1 Vn)
  have e9 : (H ++ (M ++ R0.drop 34)).set 165 (.slice Va 1 Vn) = H ++ (M ++ [.slice Va 1 Vn]) := by
    rw [hr0, List.set_append_right _ _ (by omega), hHl2, List.set_append_right _ _ (by omega), hMl]
    rfl
  rw [e9] at a9
  have s9 : Step (One (q + 4)) c8 w8 c8 (w8.setCell ⟨xb, 165, none⟩ (.slice Va 1 Vn)) := (Step.refl (K := One (q + 4))).setCell (a := ⟨xb, 165, none⟩) (.inr xa8.col) _
  have o9 := o8.setCell ⟨xb, 165, none⟩ (.slice Va 1 Vn)
  have i9 := i8.keep s9 (show ¬ q = q + 4 by omega) (show ¬ 0 = q + 4 by omega)
  have xr9 := (xr.keep s8 n4).keep s9 (show ¬ q + 1 = q + 4 by omega)
  have xf9 := (xf.keep s8 n5).keep s9 (show ¬ q + 2 = q + 4 by omega)
  have xg9 := (xg.keep s8 n6).keep s9 (show ¬ q + 3 = q + 4 by omega)
  have xs9 := (xs.trans (s8.mono fun j (e : j = q) => by omega)).trans (s9.mono fun j (e : j = q + 4) => by omega)
  obtain ⟨W9, hW9⟩ : ∃ W, w8.setCell ⟨xb, 165, none⟩ (.slice Va 1 Vn) = W := ⟨_, rfl⟩
  rw [hW9] at a9 s9 o9 i9 xr9 xf9 xg9 xs9
  have EN := end_any o9 i9
  rw [endF_all (by
    have e1 := congrArg List.length hd2
    rw [List.length_drop, List.append_nil, List.length_append] at e1
    simp only [List.length_append] at e1 ⊢
    omega)] at EN
  have g0 := xg9.get (i := 0) rfl
  have g1 := xg9.get (i := 1) rfl
  obtain ⟨U, hU⟩ : ∃ U, H ++ (M ++ [.slice Va 1 Vn]) = U := ⟨_, rfl⟩
  have hUl : U.length = 166 := by rw [← hU, List.length_append, List.length_append, hHl2, hMl]; rfl
  have hU1 : ∀ v ∈ U, v.oneCell' = true := by
    intro v hv
    rw [← hU] at hv
    rcases List.mem_append.1 hv with hv | hv
    · exact hH1 v hv
    · rcases List.mem_append.1 hv with hv | hv
      · exact hM1 v hv
      · simp at hv; subst hv; exact hV1
  rw [hU] at a9
  have X9 := Lib.hid (And.intro xr9 (And.intro xf9 (And.intro xg9 (And.intro xs9 (And.intro a9 (And.intro hUl (And.intro hU1 (show ∃ R : List Value, U = H ++ R ∧ R.length = 35 ∧ ∀ u ∈ R, u.oneCell' = true from ⟨_, hU.symm, by rw [List.length_append, hMl]; rfl, fun v hv => hU1 v (by rw [← hU]; exact List.mem_append_right _ hv)⟩))))))))
  clear PV X7 T7 slV i8 s8 o8 hqc hZB zB hwf hy hwd hE hHl hCl hVl hDC xr xf xg xs xa hl7 hd2 hM hMl hM1 hR0 hR1 hH hU0 hHl2 hH1 n4 n5 n6 n7 hV1 hll xa8 a9 e9 s9 o9 i9 xr9 xf9 xg9 xs9 hUl hU1 hU hr0
  go_wp2_with fail
  (try rw [hW9])
  with_reducible refine EN.mono ?_
  rintro e wA ⟨rfl, cA, sA, oA⟩
  obtain ⟨xr, xf, xg, xs, xa, hUl, hU1, hR⟩ := X9.out
  obtain ⟨f1, f2, f3, f4, f5, f6, f7⟩ := (xg.kn sA).fault oA (Nat.succ_ne_zero _)
  have xrB := (xr.kn sA).keep f3 (show ¬ q + 1 = q + 3 by omega)
  have xfB := (xf.kn sA).keep f3 (show ¬ q + 2 = q + 3 by omega)
  have xaB := (xa.kn sA).keep f3 (show ¬ q + 4 = q + 3 by omega)
  have xsB := (xs.trans sA.ofNo).trans (f3.mono fun j (e : j = q + 3) => by omega)
  obtain ⟨WB, hWB⟩ : ∃ W, (wA.setCell ⟨fb, 0, none⟩ (.int .i64 0)).setCell ⟨fb, 1, none⟩ (.int .i64 0) = W := ⟨_, rfl⟩
  rw [hWB] at f1 f2 f3 xrB xfB xaB xsB
  have g0 := f1.get (i := 0) rfl
  have g1 := f1.get (i := 1) rfl
  have sd : Step No cA WB cA WB.drew := Step.rf.drewN 1
  have od : Ok cA WB.drew := f2.drewN 1
  have hZB := HB.out.2.1
  have hil : (Tryz.prog.info? 59).map (·.size) = some U.length := by rw [info_blo, hUl]
  have xrI := xrB.kn sd
  have ht0 := xrI.there (o := 0) (n := U.toArray.size) od (Nat.succ_ne_zero q) (by simp [hUl, hZB])
  obtain ⟨_, aR⟩ := xrI.st od (Nat.succ_ne_zero q) (ty := 59) (us := U) (by rw [hUl, hZB]) hil hU1
  have sR : Step (One (q + 1)) cA WB.drew cA (WB.drew.setCells rb 0 U) := Step.setCells (K := One (q + 1)) (.inr xrI.col) _ _ _ Step.refl
  have oR := Ok.setCells (b := rb) U 0 _ od
  have xfR := (xfB.kn sd).keep sR (show ¬ q + 2 = q + 1 by omega)
  obtain ⟨h1, h2, h3, h4, h5, h6, h7⟩ := xfR.fault oR (Nat.succ_ne_zero _)
  have KN : ∀ {K : Nat → Prop} {c2 : Col} {w2 : World}, ¬ K (q + 4) → ¬ K (q + 3) → Step K cA WB c2 w2 → (fun W : World => (Instr.loadAt 59 (.pointer (some ⟨xb, 0, none⟩))).run Tryz.prog W = .ok (.agg U.toArray) W ∧ W.cell? ⟨fb, 0, none⟩ = some (.int .i64 0) ∧ W.cell? ⟨fb, 1, none⟩ = some (.int .i64 0)) w2 :=
    fun n4 n3 st => ⟨(xaB.keep st n4).ld (ty := 59) Tryz.underlying59 rfl hil, (f1.keep st n3).get (i := 0) rfl, (f1.keep st n3).get (i := 1) rfl⟩
  have KK := KN (fun h => h) (fun h => h) sd
  have KR := KN (show ¬ One (q + 1) (q + 4) from fun (h : q + 4 = q + 1) => by omega) (show ¬ One (q + 1) (q + 3) from fun (h : q + 3 = q + 1) => by omega) (sd.ofNo.trans sR)
  have aRF := aR.keep h3 (show ¬ q + 1 = q + 2 by omega)
  have sAll : Step No c w cA (((WB.drew.setCells rb 0 U).setCell ⟨rb + 1, 0, none⟩ (.int .i64 0)).setCell ⟨rb + 1, 1, none⟩ (.int .i64 0)) := (((xsB.trans sd.ofNo).trans (sR.mono fun j (e : j = q + 1) => by omega)).trans (h3.mono fun j (e : j = q + 2) => by omega)).drop fun b _ e => by have := HB.out.1 b; omega
  have FL := Lib.hid (And.intro ht0 (And.intro (show (Tryz.prog.info? 59).map (·.size) = some U.toArray.size by rw [info_blo]; simp [hUl]) (And.intro (all_oneCell_toArray hU1) (And.intro aRF.cells (And.intro h1.cells (And.intro sAll (And.intro h2 (And.intro hil hR))))))))
  clear EN X9 sA oA xr xf xg xs xa hUl hU1 hR f1 f2 f3 xrB xfB xaB xsB sd od hZB hil xrI ht0 aR sR oR xfR h1 h2 h3 KN aRF sAll
  go_wp2_with fail
  (try rw [hWB])
  refine region_planM (fun W => (Instr.loadAt 59 (.pointer (some ⟨xb, 0, none⟩))).run Tryz.prog W = .ok (.agg U.toArray) W ∧ W.cell? ⟨fb, 0, none⟩ = some (.int .i64 0) ∧ W.cell? ⟨fb, 1, none⟩ = some (.int .i64 0)) (fun i => !([3] : List Nat).contains i) (by kernel_rfl) ?_
  refine wpAnyM.takeT (i := 0) (v := _) (some 34) rfl rfl (by kernel_rfl) (by kernel_rfl) (by kernel_rfl) (by kernel_rfl) (by kernel_rfl) (fun _ _ _ h => h) (Or.inl ⟨by rfl, fun W hW => by obtain ⟨q0, q1, q2⟩ := hW; exact y_load 59 q0 (.tmp 6) rfl rfl⟩) KK ?_
  (try simp only [Act.put, List.setIfInBounds_toArray, List.set_cons_zero, List.set_cons_succ])
  refine wpAnyM.takeT (i := 1) (v := _) (some 35) rfl rfl (by kernel_rfl) (by kernel_rfl) (by kernel_rfl) (by kernel_rfl) (by kernel_rfl) (fun _ _ _ h => h) (Or.inl ⟨by rfl, fun W hW => by first | (obtain ⟨q0, q1, q2⟩ := hW; go_simp <;> rfl) | (obtain ⟨q0, q1, q2⟩ := hW; go_simp; done)⟩) KK ?_
  (try simp only [Act.put, List.setIfInBounds_toArray, List.set_cons_zero, List.set_cons_succ])
  refine wpAnyM.one (i := 2) (by kernel_rfl) rfl (fun KQ hK => ?_)
  refine step_store rfl 59 _ _ rfl rb 0 U.toArray rfl rfl FL.out.1 FL.out.2.1 FL.out.2.2.1 ?_
  simp only [List.toList_toArray]
  refine hK.out _ _ (fun _ => KR) ?_
  clear hK KQ
  (try simp only [Act.put, List.setIfInBounds_toArray, List.set_cons_zero, List.set_cons_succ])
  refine wpAnyM.one (i := 3) (by kernel_rfl) rfl (fun KQ hK => ?_)
  go_simp
  refine hK.out _ _ (fun h => absurd h (by decide)) ?_
  clear hK KQ
  (try simp only [Act.put, List.setIfInBounds_toArray, List.set_cons_zero, List.set_cons_succ])
  refine wpAnyM.done (by kernel_rfl) ?_ _
  go_wp2_with fail
  obtain ⟨_, _, _, f4, f5, f6, f7, f8, R, hR1, hR2, hR3⟩ := FL.out
  refine bodyPost_ret (results_cells2 rfl _ _ rb (rb + 1) U _ _ _ rfl rfl f4 Tryz.underlying59 rfl f8 f5 Tryz.underlying74 rfl info_fault) rfl ⟨R, by rw [hR1, HH.out.1], hR2, hR3, cA, f6, f7⟩
end
end Go.Proofs.YtgcobbapaaihiaaGreat
