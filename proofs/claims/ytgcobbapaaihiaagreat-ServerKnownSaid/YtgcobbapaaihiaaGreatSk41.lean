/- ServerKnown, part 41: lemmas, each with its own conditions. -/
import Derived.Test.YtgcobbapaaihiaaGreatSk37
import Derived.Test.YtgcobbapaaihiaaGreatSk40
set_option linter.unusedVariables false
set_option linter.unusedSimpArgs false
namespace Go.Proofs.YtgcobbapaaihiaaGreat
open Go.RowKit

/-- A commit of one vote: its bytes. -/
def encC1 (ht : Int) (y : List UInt8) (wd : List UInt8) : List UInt8 := numB ht.toNat ++ (y ++ (numB 1 ++ (numB 0 ++ wd)))
def cmCells (ht : Int) (y : List UInt8) (v : Value) : List Value := .int .i64 ht :: (bC y ++ [v])
theorem zero_commitZ : zeroIs Tryz.prog 56 (cmCells 0 zeros (.slice none 0 0)) := by unfold zeroIs; kernel_rfl

section
variable {c : Col} {w : World}

theorem cmCells_len (ht : Int) {y : List UInt8} (hy : y.length = 32) (v : Value) : (cmCells ht y v).length = 34 := by simp [cmCells, bC_len, hy]
theorem cm_slot {b k : Nat} {ht : Int} {y : List UInt8} {v : Value} (hy : y.length = 32) (h : At c w b k (cmCells ht y v)) : w.cell? ⟨b, 33, none⟩ = some v := by
  have h1 := (cells_app (xs := .int .i64 ht :: bC y) (ys := [v]) h.cells).2 0 v rfl
  simpa [bC_len, hy] using h1
theorem cm_set {ht : Int} {y : List UInt8} {v : Value} (hy : y.length = 32) (u : Value) : (cmCells ht y v).set 33 u = cmCells ht y u := by
  unfold cmCells
  rw [show (33 : Nat) = 32 + 1 from rfl, List.set_cons_succ, List.set_append_right _ _ (by rw [bC_len, hy]; omega), bC_len, hy]
  rfl

set_option maxRecDepth 100000 in
set_option maxHeartbeats 6400000 in
theorem commitD_ok (hok : Ok c w) {ht : Int} (hh : heightB ht = true) {y wd : List UInt8} (hy : y.length = 32) (hwd : wd.length = 8) {kx : Nat} {v : Value} (hv : Sl TByte c kx 0 w v (encC1 ht y wd)) :
    Calls Tryz.prog 106 #[v] w fun r w' => ∃ (s : Nat) (x : Value), r = .returned (.tuple #[.agg (cmCells ht y x).toArray, .agg #[.int .i64 0, .int .i64 0]]) ∧ ∃ c', Sl TVot c' 0 0 w' x [⟨0, s⟩] ∧ Step No c w c' w' ∧ Ok c' w' := by
  obtain ⟨q, hq, hqc⟩ := hok.top kx
  have hq0 : q ≠ 0 := by omega
  have hhn : ((ht.toNat : Nat) : Int) = ht ∧ ht.toNat < 9223372036854775808 := by simp only [heightB, Bool.and_eq_true, decide_eq_true_eq] at hh; omega
  obtain ⟨ar, or_, sr⟩ := newAt hok (cmCells 0 zeros (.slice none 0 0)) 56 (q + 1)
  obtain ⟨af, of_, sf⟩ := newAt or_ [.int .i64 0, .int .i64 0] 74 (q + 2)
  rw [World.size_alloc] at af of_ sf
  obtain ⟨cb, hcb⟩ : ∃ b, w.heap.size = b := ⟨_, rfl⟩
  rw [hcb] at ar or_ sr af of_ sf
  have ar1 := ar.kn sf
  have s1 := sr.trans sf
  have hv1 := hv.kn s1
  have hbl : (encC1 ht y wd).length ≤ 100 := by
    have h1 := numB_len ht.toNat
    have h2 := numB_len 1
    have h3 := numB_len 0
    simp [encC1, hy, hwd]; omega
  obtain ⟨bs, hbs⟩ : ∃ bs, encC1 ht y wd = bs := ⟨_, rfl⟩
  rw [hbs] at hv hv1 hbl
  obtain ⟨Z, hZ⟩ : ∃ Z, cmCells 0 zeros (.slice none 0 0) = Z := ⟨_, rfl⟩
  have zC := zero_commitZ
  rw [hZ] at ar1 of_ s1 hv1 zC af
  obtain ⟨W1, hW1⟩ : ∃ W, (w.alloc (.cells Z.toArray 56)).alloc (.cells #[.int .i64 0, .int .i64 0] 74) = W := ⟨_, rfl⟩
  have hW1' : (w.alloc (.cells Z.toArray 56)).alloc (.cells ([Value.int .i64 0, .int .i64 0] : List Value).toArray 74) = W1 := hW1
  rw [hW1'] at ar1 s1 hv1 af of_
  have NR := newReader_any of_ hv1 (by omega) q
  obtain ⟨va, vd, rfl, _⟩ := hv.form
  have HB := Lib.hid (And.intro hbs (And.intro hqc (And.intro hy (And.intro hwd (And.intro hhn (And.intro hh (And.intro hZ (And.intro zC hbl))))))))
  have X := Lib.hid (And.intro ar1 (And.intro af s1))
  clear ar or_ sr af of_ sf ar1 s1 hv1 hv hok hqc hbs hy hwd hhn hh hZ zC hbl
  go_enter Tryz.func106, Tryz.ntmps106
  go_wp2_with (refine wpList_alloc_zero rfl (some 2) rfl 56 rfl HB.out.2.2.2.2.2.2.2.1 ?_)
  (try simp only [World.size_alloc])
  (try rw [hcb])
  (try rw [hW1])
  with_reducible refine NR.mono ?_
  rintro e w2 ⟨p, rfl, c2, i2, s2, o2, _⟩
  obtain ⟨hbs, hqc, hy, hwd, hhn, hh, hZ, zC, hbl⟩ := HB.out
  have e2 : bs.drop 0 = numB ht.toNat ++ (y ++ (numB 1 ++ (numB 0 ++ wd))) := by rw [← hbs, List.drop_zero]; rfl
  have N1 := Num_any o2 i2 hq0 ht.toNat hhn.2 e2
  rw [hhn.1] at N1
  obtain ⟨A1, hA1⟩ : ∃ a, 0 + (numB ht.toNat).length = a := ⟨_, rfl⟩
  rw [hA1] at N1
  have e3 : bs.drop A1 = y ++ (numB 1 ++ (numB 0 ++ wd)) := by
    rw [← hA1, ← List.drop_drop, e2, List.drop_left]
  have hL : bs.length = A1 + 43 := by
    have := congrArg List.length e3
    have d1 : (numB 1).length = 2 := by decide
    have d0 : (numB 0).length = 1 := by decide
    simp [hy, hwd, d1, d0] at this
    omega
  have X2 := Lib.hid (And.intro (X.out.1.kn s2) (And.intro (X.out.2.1.kn s2) (And.intro (X.out.2.2.trans s2) (And.intro e3 hL))))
  clear NR X i2 s2 o2 e2 e3 hbs hqc hy hwd hhn hh hZ zC hbl hA1 hL
  go_wp2_with fail
  with_reducible refine N1.mono ?_
  rintro e w3 ⟨rfl, c3, i3, s3, o3⟩
  obtain ⟨hbs, hqc, hy, hwd, hhn, hh, hZ, zC, hbl⟩ := HB.out
  obtain ⟨xr, xf, xs, xe, xl⟩ := X2.out
  have xr3 := xr.keep s3 (show ¬ q + 1 = q by omega)
  rw [← hZ] at xr3
  have y0 := xr3.get (i := 0) rfl
  have yf := xr3.fz o3 (Nat.succ_ne_zero _) 0
  have xr4 : At c3 (w3.setCell ⟨cb, 0, none⟩ (.int .i64 ht)) cb (q + 1) (cmCells ht zeros (.slice none 0 0)) := xr3.setN (i := 0) (by rw [cmCells_len _ rfl]; omega) (.int .i64 ht)
  have s4 : Step (One (q + 1)) c3 w3 c3 (w3.setCell ⟨cb, 0, none⟩ (.int .i64 ht)) := (Step.refl (K := One (q + 1))).setCell (a := ⟨cb, 0, none⟩) (.inr xr3.col) _
  have o4 := o3.setCell ⟨cb, 0, none⟩ (.int .i64 ht)
  have i4 := i3.keep s4 (show ¬ q = q + 1 by omega) (show ¬ 0 = q + 1 by omega)
  have xf4 := (xf.keep s3 (show ¬ q + 2 = q by omega)).keep s4 (show ¬ q + 2 = q + 1 by omega)
  have xs4 : Step (fun j => q ≤ j) c w c3 (w3.setCell ⟨cb, 0, none⟩ (.int .i64 ht)) := (xs.ofNo.trans (s3.mono fun j (e : j = q) => by omega)).trans (s4.mono fun j (e : j = q + 1) => by omega)
  obtain ⟨W4, hW4⟩ : ∃ W, w3.setCell ⟨cb, 0, none⟩ (.int .i64 ht) = W := ⟨_, rfl⟩
  rw [hW4] at xr4 s4 o4 i4 xf4 xs4
  have RH := RHash_any o4 i4 hq0 (by rw [xl]; omega)
  have eT : (bs.drop A1).take 32 = y := by rw [xe]; exact List.take_left' hy
  rw [eT] at RH
  have e5 : bs.drop (A1 + 32) = numB 1 ++ (numB 0 ++ wd) := by rw [← List.drop_drop, xe]; exact List.drop_left' hy
  have X4 := Lib.hid (And.intro xr4 (And.intro xf4 (And.intro xs4 (And.intro e5 xl))))
  clear N1 X2 i3 s3 o3 xr xf xs xe xl xr3 xr4 s4 o4 i4 xf4 xs4 eT e5 hbs hqc hy hwd hhn hh hZ zC hbl
  go_wp2_with fail
  (try rw [hW4])
  with_reducible refine RH.mono ?_
  rintro e w5 ⟨rfl, c5, i5, s5, o5⟩
  obtain ⟨hbs, hqc, hy, hwd, hhn, hh, hZ, zC, hbl⟩ := HB.out
  obtain ⟨xr, xf, xs, xe, xl⟩ := X4.out
  have xr5 := xr.keep s5 (show ¬ q + 1 = q by omega)
  obtain ⟨aw, tw⟩ := At.seg (xs := [.int .i64 ht]) (os := bC zeros) (zs := [.slice none 0 0]) (us := bC y) xr5 o5 (Nat.succ_ne_zero q) (by rw [bC_len, bC_len, hy]; rfl)
  have aw : At c5 (w5.setCells cb 1 (bC y)) cb (q + 1) (cmCells ht y (.slice none 0 0)) := aw
  have tw : w5.there cb 1 (bC y).length := tw
  have s6 : Step (One (q + 1)) c5 w5 c5 (w5.setCells cb 1 (bC y)) := Step.setCells (K := One (q + 1)) (.inr xr5.col) _ _ _ Step.refl
  have o6 := Ok.setCells (b := cb) (bC y) 1 _ o5
  have i6 := i5.keep s6 (show ¬ q = q + 1 by omega) (show ¬ 0 = q + 1 by omega)
  have xf6 := (xf.keep s5 (show ¬ q + 2 = q by omega)).keep s6 (show ¬ q + 2 = q + 1 by omega)
  have xs6 := (xs.trans (s5.mono fun j (e : j = q) => by omega)).trans (s6.mono fun j (e : j = q + 1) => by omega)
  obtain ⟨Y, hY⟩ : ∃ Y, bC y = Y := ⟨_, rfl⟩
  obtain ⟨W6, hW6⟩ : ∃ W, w5.setCells cb 1 (bC y) = W := ⟨_, rfl⟩
  rw [hW6] at aw s6 o6 i6 xf6 xs6
  rw [hY] at hW6 tw ⊢
  have hYl : Y.length = 32 := by rw [← hY, bC_len, hy]
  have T6 := Lib.hid (And.intro (show w5.there cb 1 Y.toArray.size by simpa using tw) (And.intro (show (Tryz.prog.info? 51).map (·.size) = some Y.toArray.size by rw [info_hash]; simp [hYl]) (And.intro (show Y.toArray.all (·.oneCell') = true by rw [← hY]; exact all_oneCell_toArray (bC_one y)) hW6)))
  have RS := rest_ok i6 rfl
  have X6 := Lib.hid (And.intro aw (And.intro xf6 (And.intro xs6 (And.intro xe (And.intro xl (And.intro i6 (And.intro o6 hY)))))))
  clear RH X4 i5 s5 o5 xr xf xs xe xl xr5 aw tw s6 o6 i6 xf6 xs6 hYl hW6 hY hbs hqc hy hwd hhn hh hZ zC hbl y0 yf hW4
  go_wp2_with (refine wpList_store_mid rfl 51 _ _ rfl cb 1 Y.toArray rfl rfl T6.out.1 T6.out.2.1 T6.out.2.2.1 ?_; rw [T6.out.2.2.2])
  with_reducible refine RS.mono ?_
  rintro e w7 ⟨rfl, n7, rfl⟩
  obtain ⟨xr, xf, xs, xe, xl, xi, xo, hY⟩ := X6.out
  have sd : Step No c5 W6 c5 (W6.drewN n7) := Step.rf.drewN n7
  have od : Ok c5 (W6.drewN n7) := xo.drewN n7
  have N2 := Num_any od (xi.kn sd) hq0 1 (by omega) xe
  have d1 : (numB 1).length = 2 := by decide
  rw [d1] at N2
  have e8 : bs.drop (A1 + 32 + 2) = numB 0 ++ wd := by rw [← List.drop_drop, xe]; exact List.drop_left' d1
  have X7 := Lib.hid (And.intro (xr.kn sd) (And.intro (xf.kn sd) (And.intro (xs.trans sd.ofNo) (And.intro e8 (And.intro xl hY)))))
  clear RS X6 T6 xr xf xs xe xl xi xo hY sd od e8 d1
  go_wp2_with fail
  with_reducible refine N2.mono ?_
  rintro e w8 ⟨rfl, c8, i8, s8, o8⟩
  obtain ⟨xr, xf, xs, xe, xl, hY⟩ := X7.out
  have N3 := Num_any o8 i8 hq0 0 (by omega) xe
  have d0 : (numB 0).length = 1 := by decide
  rw [d0] at N3
  have X8 := Lib.hid (And.intro (xr.keep s8 (show ¬ q + 1 = q by omega)) (And.intro (xf.keep s8 (show ¬ q + 2 = q by omega)) (And.intro (xs.trans (s8.mono fun j (e : j = q) => by omega)) (And.intro xl hY))))
  clear N2 X7 i8 s8 o8 xr xf xs xe xl hY d0
  go_wp2_with fail
  refine wp_loop_rounds 2 ?_
  rw [rounds_succ]
  go_wp2_with fail
  with_reducible refine N3.mono ?_
  rintro e w9 ⟨rfl, c9, i9, s9, o9⟩
  obtain ⟨xr, xf, xs, xl, hY⟩ := X8.out
  obtain ⟨av, ov, sv⟩ := newAt o9 [.int .i64 0, .int .u64 0] 106 (q + 3)
  obtain ⟨vb, hvb⟩ : ∃ b, w9.heap.size = b := ⟨_, rfl⟩
  rw [hvb] at av ov sv
  have WD := Word_any ov (i9.kn sv) hq0 (by omega)
  have hsig : bigN ((bs.drop (A1 + 32 + 2 + 1)).take 8) < 18446744073709551616 := by
    have h1 := bigN_lt ((bs.drop (A1 + 32 + 2 + 1)).take 8)
    have h2 : ((bs.drop (A1 + 32 + 2 + 1)).take 8).length ≤ 8 := by rw [List.length_take]; omega
    exact Nat.lt_of_lt_of_le h1 (Nat.pow_le_pow_right (by omega) h2)
  obtain ⟨sg, hsg⟩ : ∃ n, bigN ((bs.drop (A1 + 32 + 2 + 1)).take 8) = n := ⟨_, rfl⟩
  rw [hsg] at WD hsig
  have X9 := Lib.hid (And.intro ((xr.keep s9 (show ¬ q + 1 = q by omega)).kn sv) (And.intro ((xf.keep s9 (show ¬ q + 2 = q by omega)).kn sv) (And.intro ((xs.trans (s9.mono fun j (e : j = q) => by omega)).trans sv.ofNo) (And.intro av (And.intro xl hY)))))
  obtain ⟨W9, hW9⟩ : ∃ W, w9.alloc (.cells #[.int .i64 0, .int .u64 0] 106) = W := ⟨_, rfl⟩
  have hW9' : w9.alloc (.cells ([Value.int .i64 0, .int .u64 0] : List Value).toArray 106) = W9 := hW9
  rw [hW9'] at WD X9
  have HW9 := Lib.hid hW9
  clear N3 X8 i9 s9 o9 xr xf xs xl hY av ov sv hW9 hW9' hsg
  go_wp2_with fail
  (try rw [hvb])
  (try rw [HW9.out])
  with_reducible refine WD.mono ?_
  rintro e wA ⟨rfl, cA, iA, sA, oA⟩
  obtain ⟨hbs, hqc, hy, hwd, hhn, hh, hZ, zC, hbl⟩ := HB.out
  obtain ⟨xr, xf, xs, xv, xl, hY⟩ := X9.out
  have xvA := xv.keep sA (show ¬ q + 3 = q by omega)
  have y1 := xvA.get (i := 1) rfl
  have yf1 := xvA.fz oA (Nat.succ_ne_zero _) 1
  have xvB : At cA (wA.setCell ⟨vb, 1, none⟩ (.int .u64 sg)) vb (q + 3) [.int .i64 0, .int .u64 sg] := xvA.setN (i := 1) (by simp) (.int .u64 sg)
  have sB : Step (One (q + 3)) cA wA cA (wA.setCell ⟨vb, 1, none⟩ (.int .u64 sg)) := (Step.refl (K := One (q + 3))).setCell (a := ⟨vb, 1, none⟩) (.inr xvA.col) _
  have oB := oA.setCell ⟨vb, 1, none⟩ (.int .u64 sg)
  have iB := iA.keep sB (show ¬ q = q + 3 by omega) (show ¬ 0 = q + 3 by omega)
  have xrB := (xr.keep sA (show ¬ q + 1 = q by omega)).keep sB (show ¬ q + 1 = q + 3 by omega)
  have xfB := (xf.keep sA (show ¬ q + 2 = q by omega)).keep sB (show ¬ q + 2 = q + 3 by omega)
  have xsB := (xs.trans (sA.mono fun j (e : j = q) => by omega)).trans (sB.mono fun j (e : j = q + 3) => by omega)
  obtain ⟨WB, hWB⟩ : ∃ W, wA.setCell ⟨vb, 1, none⟩ (.int .u64 sg) = W := ⟨_, rfl⟩
  rw [hWB] at xvB sB oB iB xrB xfB xsB
  have z0 := xvB.get (i := 0) rfl
  have z1 := xvB.get (i := 1) rfl
  have ys := cm_slot hy xrB
  have h0has : IntKind.i64.has 0 := ⟨by decide, by decide⟩
  obtain ⟨x1, x2, x3⟩ := put_one (T := TVot) (x := ⟨0, sg⟩) (vs := [.int .i64 0, .int .u64 sg]) (k2 := 0) oB ⟨rfl, h0has, hsig⟩ 106
  have on := Own.nil TVot 106 cA (q + 4) 0 (WB.alloc (.cells [Value.int .i64 0, .int .u64 sg].toArray 106))
  have hq4 : 0 ≠ q + 4 := by omega
  have hm1 : ([] : List Vot).length + [(⟨0, sg⟩ : Vot)].length ≤ maxLen := by simp [maxLen]
  have hm2 : (([] : List Vot).length + [(⟨0, sg⟩ : Vot)].length) * 16 ≤ 140737488355328 := by simp
  have XB := Lib.hid (And.intro xrB (And.intro xfB (And.intro xsB (And.intro iB (And.intro x3 (And.intro xl hY))))))
  clear WD X9 iA sA oA xr xf xs xv xl hY xvA xvB sB oB iB xrB xfB xsB x3 hsig h0has hbs hqc hwd hhn hh hZ zC hbl
  have HY := Lib.hid hy
  clear hy
  go_wp2_with (at_builtin; refine wpList_app TVot x1 rfl _ _ 54 rfl 106 Tryz.underlying54 infoVot3 rfl (by decide) rfl rfl on x2 hq4 hm1 hm2 ?_; rintro vC wC cC b1 b2 b3 -; obtain ⟨vaC, vcC, rfl, _⟩ := b1.sl.form; have xrC := (XB.out.1.kn XB.out.2.2.2.2.1).keep b2 (show ¬ q + 1 = q + 4 by omega); have ysC := cm_slot HY.out xrC; have yfC := xrC.fz b3 (Nat.succ_ne_zero q) 33; have XC := Lib.hid (And.intro b1 (And.intro b2 (And.intro b3 xrC))); clear b1 b2 b3 xrC x1 x2 on ys)
  rw [rounds_succ]
  obtain ⟨hbs, hqc, hy, hwd, hhn, hh, hZ, zC, hbl⟩ := HB.out
  obtain ⟨b1, b2, b3, xrC⟩ := XC.out
  obtain ⟨_, xf, xs, xi, x3, xl, hY⟩ := XB.out
  have xrD : At cC (wC.setCell ⟨cb, 33, none⟩ (.slice vaC 1 vcC)) cb (q + 1) (cmCells ht y (.slice vaC 1 vcC)) := by
    have := xrC.setN (i := 33) (by rw [cmCells_len _ hy]; omega) (.slice vaC 1 vcC)
    rwa [cm_set hy] at this
  have sD : Step (One (q + 1)) cC wC cC (wC.setCell ⟨cb, 33, none⟩ (.slice vaC 1 vcC)) := (Step.refl (K := One (q + 1))).setCell (a := ⟨cb, 33, none⟩) (.inr xrC.col) _
  have oD := b3.setCell ⟨cb, 33, none⟩ (.slice vaC 1 vcC)
  have iD := ((xi.kn x3).keep b2 (show ¬ q = q + 4 by omega) (show ¬ 0 = q + 4 by omega)).keep sD (show ¬ q = q + 1 by omega) (show ¬ 0 = q + 1 by omega)
  have xfD := ((xf.kn x3).keep b2 (show ¬ q + 2 = q + 4 by omega)).keep sD (show ¬ q + 2 = q + 1 by omega)
  have bD := b1.keep sD (show ¬ q + 4 = q + 1 by omega) (show ¬ 0 = q + 1 by omega)
  have xsD := ((xs.trans x3.ofNo).trans (b2.mono fun j (e : j = q + 4) => by omega)).trans (sD.mono fun j (e : j = q + 1) => by omega)
  obtain ⟨WD, hWD⟩ : ∃ W, wC.setCell ⟨cb, 33, none⟩ (.slice vaC 1 vcC) = W := ⟨_, rfl⟩
  rw [hWD] at xrD sD oD iD xfD bD xsD
  have EN := end_any oD iD
  rw [endF_all (by rw [xl]; omega)] at EN
  have XD := Lib.hid (And.intro xrD (And.intro xfD (And.intro xsD bD)))
  clear XC XB b1 b2 b3 xrC xf xs xi x3 xl hY xrD sD oD iD xfD bD xsD hbs hqc hy hwd hhn hh hZ zC hbl
  go_wp2_with fail
  (try rw [hWD])
  with_reducible refine EN.mono ?_
  rintro e wE ⟨rfl, cE, sE, oE⟩
  obtain ⟨hbs, hqc, hy, hwd, hhn, hh, hZ, zC, hbl⟩ := HB.out
  obtain ⟨xr, xf, xs, xo⟩ := XD.out
  obtain ⟨f1, f2, f3, f4, f5, f6, f7⟩ := (xf.kn sE).fault oE (Nat.succ_ne_zero _)
  have xrF := (xr.kn sE).keep f3 (show ¬ q + 1 = q + 2 by omega)
  have xoF := (xo.kn sE).keep f3 (show ¬ q + 4 = q + 2 by omega) (show ¬ 0 = q + 2 by omega)
  have xsF := (xs.trans sE.ofNo).trans (f3.mono fun j (e : j = q + 2) => by omega)
  obtain ⟨WF, hWF⟩ : ∃ W, (wE.setCell ⟨cb + 1, 0, none⟩ (.int .i64 0)).setCell ⟨cb + 1, 1, none⟩ (.int .i64 0) = W := ⟨_, rfl⟩
  rw [hWF] at f1 f2 f3 xrF xoF xsF
  have g0 := f1.get (i := 0) rfl
  have g1 := f1.get (i := 1) rfl
  have CK := ccheck_any f2 ⟨ht, y, [⟨0, sg⟩]⟩ hy (show Sl TVot cE (q + 4) 0 WF (.slice vaC 1 vcC) [⟨0, sg⟩] from xoF.sl) (by simp)
  have hck : checkC ⟨ht, y, [⟨0, sg⟩]⟩ = 0 := by
    simp only [heightB, Bool.and_eq_true, decide_eq_true_eq] at hh
    unfold checkC
    rw [if_neg (by show ¬ (ht < 1 ∨ 1073741824 < ht); omega), if_neg (by show ¬ 64 < 1; omega)]
    rfl
  rw [hck, show cmC ⟨ht, y, [⟨0, sg⟩]⟩ (.slice vaC 1 vcC) = cmCells ht y (.slice vaC 1 vcC) from rfl] at CK
  have hMl := cmCells_len ht hy (.slice vaC 1 vcC)
  have hM1 : ∀ u ∈ cmCells ht y (.slice vaC 1 vcC), u.oneCell' = true := cmC_one (x := ⟨ht, y, []⟩) rfl
  obtain ⟨M, hM⟩ : ∃ M, cmCells ht y (.slice vaC 1 vcC) = M := ⟨_, rfl⟩
  rw [hM] at CK hMl hM1 xrF
  have hil : (Tryz.prog.info? 56).map (·.size) = some M.length := by rw [info_cmt, hMl]
  have XF := Lib.hid (And.intro xrF (And.intro f1 (And.intro xsF (And.intro xoF (And.intro hM (And.intro hMl hM1))))))
  have LD := Lib.hid (And.intro xrF.cells hil)
  clear EN XD sE oE xr xf xs xo f1 f2 f3 xrF xoF xsF hck hMl hM1 hM hil hbs hqc hy hwd hhn hh hZ zC hbl
  go_wp2_with (refine wpList_load_mid rfl 56 _ rfl cb 0 rfl M _ LD.out.1 Tryz.underlying56 rfl LD.out.2 ?_)
  (try rw [hWF])
  with_reducible refine CK.mono ?_
  rintro e wG ⟨rfl, cG, sG, oG⟩
  obtain ⟨xr, xf, xs, xo, hM, hMl, hM1⟩ := XF.out
  have xfG := xf.kn sG
  have h0 := xfG.get (i := 0) rfl
  have hf0 := xfG.fz oG (Nat.succ_ne_zero _) 0
  have xfH : At cG (wG.setCell ⟨cb + 1, 0, none⟩ (.int .i64 0)) (cb + 1) (q + 2) [.int .i64 0, .int .i64 0] := xfG.setN (i := 0) (by simp) (.int .i64 0)
  have sH : Step (One (q + 2)) cG wG cG (wG.setCell ⟨cb + 1, 0, none⟩ (.int .i64 0)) := (Step.refl (K := One (q + 2))).setCell (a := ⟨cb + 1, 0, none⟩) (.inr xfG.col) _
  have oH := oG.setCell ⟨cb + 1, 0, none⟩ (.int .i64 0)
  have xrH := (xr.kn sG).keep sH (show ¬ q + 1 = q + 2 by omega)
  have xoH := (xo.kn sG).keep sH (show ¬ q + 4 = q + 2 by omega) (show ¬ 0 = q + 2 by omega)
  have xsH := (xs.trans sG.ofNo).trans (sH.mono fun j (e : j = q + 2) => by omega)
  obtain ⟨WH, hWH⟩ : ∃ W, wG.setCell ⟨cb + 1, 0, none⟩ (.int .i64 0) = W := ⟨_, rfl⟩
  rw [hWH] at xfH sH oH xrH xoH xsH
  have m0 := xfH.get (i := 0) rfl
  have m1 := xfH.get (i := 1) rfl
  have sd : Step No cG WH cG WH.drew := Step.rf.drewN 1
  have od : Ok cG WH.drew := oH.drewN 1
  have xrI := xrH.kn sd
  have xfI := xfH.kn sd
  have hil := LD.out.2
  have ht0 := xrI.there (o := 0) (n := M.toArray.size) od (Nat.succ_ne_zero q) (by simp)
  obtain ⟨_, aR⟩ := xrI.st od (Nat.succ_ne_zero q) (ty := 56) (us := M) rfl hil hM1
  have sR : Step (One (q + 1)) cG WH.drew cG (WH.drew.setCells cb 0 M) := Step.setCells (K := One (q + 1)) (.inr xrI.col) _ _ _ Step.refl
  have oR := Ok.setCells (b := cb) M 0 _ od
  have xfR := xfI.keep sR (show ¬ q + 2 = q + 1 by omega)
  obtain ⟨f1, f2, f3, f4, f5, f6, f7⟩ := xfR.fault oR (Nat.succ_ne_zero _)
  have KK : (fun W : World => (Instr.loadAt 56 (.pointer (some ⟨cb, 0, none⟩))).run Tryz.prog W = .ok (.agg M.toArray) W ∧ W.cell? ⟨cb + 1, 0, none⟩ = some (.int .i64 0) ∧ W.cell? ⟨cb + 1, 1, none⟩ = some (.int .i64 0)) WH.drew := ⟨xrI.ld (ty := 56) Tryz.underlying56 rfl hil, xfI.get (i := 0) rfl, xfI.get (i := 1) rfl⟩
  have KR : (fun W : World => (Instr.loadAt 56 (.pointer (some ⟨cb, 0, none⟩))).run Tryz.prog W = .ok (.agg M.toArray) W ∧ W.cell? ⟨cb + 1, 0, none⟩ = some (.int .i64 0) ∧ W.cell? ⟨cb + 1, 1, none⟩ = some (.int .i64 0)) (WH.drew.setCells cb 0 M) := ⟨aR.ld (ty := 56) Tryz.underlying56 rfl hil, f4, f5⟩
  have aRF := aR.keep f3 (show ¬ q + 1 = q + 2 by omega)
  have xoC := ((xoH.kn sd).keep sR (show ¬ q + 4 = q + 1 by omega) (show ¬ 0 = q + 1 by omega)).keep f3 (show ¬ q + 4 = q + 2 by omega) (show ¬ 0 = q + 2 by omega)
  have slC := (xoC.turn (k := 0) (show 0 ≠ q + 4 by omega)).sl
  have sAll : Step No c w (cG.turn (q + 4) 0) (((WH.drew.setCells cb 0 M).setCell ⟨cb + 1, 0, none⟩ (.int .i64 0)).setCell ⟨cb + 1, 1, none⟩ (.int .i64 0)) := ((((xsH.trans sd.ofNo).trans (sR.mono fun j (e : j = q + 1) => by omega)).trans (f3.mono fun j (e : j = q + 2) => by omega)).turn (show q ≤ q + 4 by omega)).drop fun b _ e => by have := HB.out.2.1 b; omega
  have FL := Lib.hid (And.intro ht0 (And.intro (show (Tryz.prog.info? 56).map (·.size) = some M.toArray.size by rw [info_cmt]; simp [hMl]) (And.intro (all_oneCell_toArray hM1) (And.intro aRF.cells (And.intro f1.cells (And.intro slC (And.intro sAll (And.intro (f2.turn (q := q + 4) (k := 0) (by omega)) (And.intro hil hM)))))))))
  clear CK XF sG oG xr xf xs xo hM hMl hM1 xfG xfH sH oH xrH xoH xsH sd od xrI xfI hil ht0 aR sR oR xfR f1 f2 f3 aRF xoC slC sAll
  go_wp2_with fail
  (try rw [hWH])
  refine region_planM (fun W => (Instr.loadAt 56 (.pointer (some ⟨cb, 0, none⟩))).run Tryz.prog W = .ok (.agg M.toArray) W ∧ W.cell? ⟨cb + 1, 0, none⟩ = some (.int .i64 0) ∧ W.cell? ⟨cb + 1, 1, none⟩ = some (.int .i64 0)) (fun i => !([3] : List Nat).contains i) (by kernel_rfl) ?_
  refine wpAnyM.takeT (i := 0) (v := _) (some 57) rfl rfl (by kernel_rfl) (by kernel_rfl) (by kernel_rfl) (by kernel_rfl) (by kernel_rfl) (fun _ _ _ h => h) (Or.inl ⟨by rfl, fun W hW => by obtain ⟨q0, q1, q2⟩ := hW; exact y_load 56 q0 (.tmp 2) rfl rfl⟩) KK ?_
  (try simp only [Act.put, List.setIfInBounds_toArray, List.set_cons_zero, List.set_cons_succ])
  refine wpAnyM.takeT (i := 1) (v := _) (some 58) rfl rfl (by kernel_rfl) (by kernel_rfl) (by kernel_rfl) (by kernel_rfl) (by kernel_rfl) (fun _ _ _ h => h) (Or.inl ⟨by rfl, fun W hW => by first | (obtain ⟨q0, q1, q2⟩ := hW; go_simp <;> rfl) | (obtain ⟨q0, q1, q2⟩ := hW; go_simp; done)⟩) KK ?_
  (try simp only [Act.put, List.setIfInBounds_toArray, List.set_cons_zero, List.set_cons_succ])
  refine wpAnyM.one (i := 2) (by kernel_rfl) rfl (fun KQ hK => ?_)
  refine step_store rfl 56 _ _ rfl cb 0 M.toArray rfl rfl FL.out.1 FL.out.2.1 FL.out.2.2.1 ?_
  simp only [List.toList_toArray]
  refine hK.out _ _ (fun _ => KR) ?_
  clear hK KQ
  (try simp only [Act.put, List.setIfInBounds_toArray, List.set_cons_zero, List.set_cons_succ])
  refine wpAnyM.one (i := 3) (by kernel_rfl) rfl (fun KQ hK => ?_)
  go_simp
  refine hK.out _ _ (fun h => absurd h (by decide)) ?_
  clear hK KQ
  (try simp only [Act.put, List.setIfInBounds_toArray, List.set_cons_zero, List.set_cons_succ])
  refine wpAnyM.done (by kernel_rfl) ?_ _
  go_wp2_with fail
  obtain ⟨_, _, _, f4, f5, f6, f7, f8, f9, f10⟩ := FL.out
  refine bodyPost_ret (results_cells2 rfl _ _ cb (cb + 1) M _ _ _ rfl rfl f4 Tryz.underlying56 rfl f9 f5 Tryz.underlying74 rfl info_fault) rfl ⟨sg, _, by rw [← f10]; rfl, cG.turn (q + 4) 0, f6, f7, f8⟩
end
end Go.Proofs.YtgcobbapaaihiaaGreat
