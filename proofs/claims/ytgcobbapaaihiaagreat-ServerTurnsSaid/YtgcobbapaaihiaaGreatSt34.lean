/- ServerTurns, part 34: lemmas, each with its own conditions. -/
import Derived.Test.YtgcobbapaaihiaaGreatSt02
import Derived.Test.YtgcobbapaaihiaaGreatSt28
import Derived.Test.YtgcobbapaaihiaaGreatSt33
set_option linter.unusedVariables false
set_option linter.unusedSimpArgs false
namespace Go.Proofs.YtgcobbapaaihiaaGreat
open Go.RowKit

/-- The cells of a message that is an answer. -/
def ansM (id ht : Int) (M : List Value) : Prop := M.length = 170 ∧ (∀ v ∈ M, v.oneCell' = true) ∧ M[0]? = some (.int .i64 2) ∧ M[3]? = some (.int .i64 id) ∧ M[5]? = some (.int .i64 ht)

theorem encB_small {h : Int} (hh : 1 ≤ h ∧ h ≤ 3) {b : Blo} (hf : Fit h b) : (encB b).length ≤ 1000 := by
  have hwf : b.h.Wf ∧ checkH b.h = 0 := by
    obtain ⟨p, z, x, y, hp, hz, hx, hy, rfl⟩ := hf
    exact ⟨(hdr1_wf hh hp hz).vals' hx, hdr1_check hh p z⟩
  obtain ⟨y, wd, hy, hwd, hyb, hE⟩ := encB_fit hf
  have hHl : (encH b.h).length ≤ 190 := encH_len hwf.1 hwf.2
  have hCl : (encC1 h y wd).length ≤ 100 := by
    have h1 := numB_len h.toNat
    have h2 := numB_len 1
    have h3 := numB_len 0
    simp [encC1, hy, hwd]; omega
  have hVl : (encV l1).length ≤ 100 := by decide
  have h1 := numB_len (encH b.h).length
  have h2 := numB_len (encC1 h y wd).length
  have h3 := numB_len (encV l1).length
  rw [hE]; simp [lpB]; omega

section
variable {c : Col} {w : World}

set_option maxRecDepth 100000 in
set_option maxHeartbeats 6400000 in
theorem decodeAns_ok (hok : Ok c w) {id h : Int} {b : Blo} (hid : idB id = true) (hh : 1 ≤ h ∧ h ≤ 3) (hf : Fit h b) {kx : Nat} {v : Value} (hv : Sl TByte c kx 0 w v (encN id b)) :
    Calls Tryz.prog 33 #[v] w fun r w' => ∃ M, ansM id b.h.height M ∧ r = .returned (.tuple #[.agg M.toArray, .agg #[.int .i64 0, .int .i64 0]]) ∧ ∃ c', Step No c w c' w' ∧ Ok c' w' := by
  obtain ⟨q, hq, hqc⟩ := hok.top kx
  have hq0 : q ≠ 0 := by omega
  have hnk : ¬ One q 0 := fun (e : 0 = q) => hq0 e.symm
  have hBl := encB_small hh hf
  obtain ⟨bs, hbs⟩ : ∃ bs, encN id b = bs := ⟨_, rfl⟩
  have hbl : bs.length ≤ 1100 := by have := numB_len 2; have := numB_len id.toNat; have := numB_len (encB b).length; rw [← hbs]; simp [encN, lpB]; omega
  rw [hbs] at hv
  obtain ⟨am, om, sm⟩ := newAt hok (msgA 0 0 0) 72 (q + 1)
  obtain ⟨af, of_, sf⟩ := newAt om [.int .i64 0, .int .i64 0] 74 (q + 2)
  rw [World.size_alloc] at af of_ sf
  obtain ⟨mb, hmb⟩ : ∃ b, w.heap.size = b := ⟨_, rfl⟩
  obtain ⟨ZM, hZM⟩ : ∃ Z, msgA 0 0 0 = Z := ⟨_, rfl⟩
  obtain ⟨W1, hW1⟩ : ∃ W, (w.alloc (.cells ZM.toArray 72)).alloc (.cells #[.int .i64 0, .int .i64 0] 74) = W := ⟨_, rfl⟩
  have hz := zeroM_zero
  rw [hZM] at hz
  have X1 : RowKit.Hid (∃ c1, At c1 W1 mb (q + 1) (msgA 0 0 0) ∧ At c1 W1 (mb + 1) (q + 2) [.int .i64 0, .int .i64 0] ∧ Sl TByte c1 kx 0 W1 v bs ∧ Step No c w c1 W1 ∧ Ok c1 W1) := Lib.hid ⟨_, by
    rw [← hW1, ← hZM, ← hmb]; exact ⟨am.keep sf (fun h => h), af, (hv.kn sm).kn sf, sm.trans sf, of_⟩⟩
  obtain ⟨va, vd, rfl, _⟩ := hv.form
  have HZ := Lib.hid (And.intro hz (And.intro hbs (And.intro hid (And.intro hh (And.intro hf hBl)))))
  have M1 := mmust_yes W1 4 65536
  have hble : (bs.length : Int) ≤ 65536 := by omega
  clear am om sm af of_ sf hv hok hz hbs hid hh hf hBl hZM
  go_enter_defers Tryz.func33, Tryz.ntmps33
  go_wp2_with (refine wpList_alloc_zero rfl (some 2) rfl 72 rfl HZ.out.1 ?_)
  (try simp only [World.size_alloc])
  (try rw [hmb])
  (try rw [hW1])
  with_reducible refine M1.mono ?_
  rintro e w1 ⟨rfl, rfl⟩
  clear M1
  obtain ⟨c1, am, af, sv, s1, o1⟩ := X1.out
  have NR := newReader_any o1 sv (by omega) q
  have X2 := Lib.hid (And.intro am (And.intro af (And.intro sv s1)))
  clear X1 am af sv s1 o1
  go_wp2_with fail
  with_reducible refine NR.mono ?_
  rintro e w2 ⟨p, rfl, c2, i2, s2, o2, _⟩
  obtain ⟨b4, hb4⟩ : ∃ b, w2.heap.size = b := ⟨_, rfl⟩
  have s3 : Step No c2 w2 c2 (w2.alloc (.cells #[.pointer (some ⟨p, 0, none⟩), .int .i64 bs.length] 115)) := Step.refl.alloc _
  have a3 := At.new0 o2 [.pointer (some ⟨p, 0, none⟩), .int .i64 bs.length] 115
  have o3 := o2.alloc (.cells #[.pointer (some ⟨p, 0, none⟩), .int .i64 bs.length] 115)
  have am3 := (X2.out.1.keep s2 (fun h => h)).keep s3 (fun h => h)
  have af3 := (X2.out.2.1.keep s2 (fun h => h)).keep s3 (fun h => h)
  have i3 := i2.kn s3
  rw [hb4] at a3
  obtain ⟨W3, hW3⟩ : ∃ W, w2.alloc (.cells #[.pointer (some ⟨p, 0, none⟩), .int .i64 bs.length] 115) = W := ⟨_, rfl⟩
  rw [hW3] at s3 a3 o3 am3 af3 i3
  have NK := Num_any o3 i3 hq0 2 (by omega) (rest := numB id.toNat ++ lpB (encB b)) (by rw [List.drop_zero, ← HZ.out.2.1]; rfl)
  have y0 := a3.get (i := 0) rfl
  have X3 := Lib.hid (And.intro am3 (And.intro af3 (And.intro a3 ((X2.out.2.2.2.trans s2).trans s3))))
  clear NR X2 i2 s2 o2 s3 a3 o3 am3 af3 i3
  go_wp2_with fail
  (try rw [hb4])
  (try rw [hW3])
  refine NK.mono ?_
  rintro e w4 ⟨rfl, c4, i4, s4, o4⟩
  have am4 := X3.out.1.keep s4 (show ¬ q + 1 = q by omega)
  have af4 := X3.out.2.1.keep s4 (show ¬ q + 2 = q by omega)
  have a4 := X3.out.2.2.1.keep s4 hnk
  have z0 : w4.cell? ⟨mb, 0, none⟩ = some (.int .i64 0) := am4.get (i := 0) rfl
  have zf := o4.soft mb 0 (by rw [am4.col]; exact Nat.succ_ne_zero q)
  have am5 : At c4 (w4.setCell ⟨mb, 0, none⟩ (.int .i64 2)) mb (q + 1) (msgA 2 0 0) := am4.setN (i := 0) (by simp [msgA]) (.int .i64 2)
  have s5 : Step (One (q + 1)) c4 w4 c4 (w4.setCell ⟨mb, 0, none⟩ (.int .i64 2)) := (Step.refl (K := One (q + 1))).setCell (a := ⟨mb, 0, none⟩) (.inr am4.col) _
  have o5 := o4.setCell ⟨mb, 0, none⟩ (.int .i64 2)
  have i5 := i4.keep s5 (show ¬ q = q + 1 by omega) (show ¬ 0 = q + 1 by omega)
  have af5 := af4.keep s5 (show ¬ q + 2 = q + 1 by omega)
  have a5 := a4.keep s5 (show ¬ 0 = q + 1 by omega)
  obtain ⟨W5, hW5⟩ : ∃ W, w4.setCell ⟨mb, 0, none⟩ (.int .i64 2) = W := ⟨_, rfl⟩
  rw [hW5] at am5 s5 o5 i5 af5 a5
  have FN := fine_any o5 i5 bs.length
  have y50 := a5.get (i := 0) rfl
  have y51 := a5.get (i := 1) rfl
  have X5 := Lib.hid (And.intro am5 (And.intro af5 (And.intro a5 (And.intro i5 ((((X3.out.2.2.2.ofNo (K := fun j => q ≤ j)).trans (s4.mono fun j (e : j = q) => by omega)).trans (s5.mono fun j (e : j = q + 1) => by omega)))))))
  clear NK X3 i4 s4 o4 am4 af4 a4 am5 af5 a5 i5 s5 o5 y0
  go_wp2_with fail
  (try rw [hW5])
  with_reducible refine FN.mono ?_
  rintro e w6 ⟨rfl, c6, s6, o6⟩
  have am6 := X5.out.1.keep s6 (fun h => h)
  have af6 := X5.out.2.1.keep s6 (fun h => h)
  have a6 := X5.out.2.2.1.keep s6 (fun h => h)
  have i6 := X5.out.2.2.2.1.kn s6
  have hb1 : bs.drop (0 + (numB 2).length) = numB id.toNat ++ lpB (encB b) := by rw [Nat.zero_add, ← HZ.out.2.1, encN, List.drop_left]
  have hidn : ((id.toNat : Nat) : Int) = id ∧ id.toNat < 9223372036854775808 := by have := HZ.out.2.2.1; simp only [idB, Bool.and_eq_true, decide_eq_true_eq] at this; omega
  have NI := mnum_any o6 i6 hq0 id.toNat hidn.2 hb1 (may := 54) (fun W => by rw [hidn.1]; have := mnumber_any id W; rw [HZ.out.2.2.1] at this; exact this) (.inl rfl)
  rw [hidn.1] at NI
  have MK := mmust_yes w6 5 0
  have y60 := a6.get (i := 0) rfl
  have y61 := a6.get (i := 1) rfl
  have z6 : w6.cell? ⟨mb, 0, none⟩ = some (.int .i64 2) := am6.get (i := 0) rfl
  have hb2 : bs.drop (0 + (numB 2).length + (numB id.toNat).length) = numB (encB b).length ++ (encB b ++ []) := by rw [← List.drop_drop, hb1, List.drop_left, List.append_nil]; rfl
  obtain ⟨A2, hA2⟩ : ∃ a, 0 + (numB 2).length + (numB id.toNat).length = a := ⟨_, rfl⟩
  rw [hA2] at NI hb2
  have X6 := Lib.hid (And.intro am6 (And.intro af6 (And.intro a6 (And.intro (X5.out.2.2.2.2.trans s6.ofNo) hb2))))
  clear FN X5 s6 o6 am6 af6 a6 i6 hb1 hidn y50 y51 z0 zf hb2 hA2
  go_wp2_with fail
  with_reducible refine MK.mono ?_
  rintro e w7 ⟨rfl, rfl⟩
  clear MK
  go_wp2_with fail
  with_reducible refine NI.mono ?_
  rintro e w7 ⟨rfl, c7, i7, s7, o7⟩
  have am7 := X6.out.1.keep s7 (show ¬ q + 1 = q by omega)
  have af7 := X6.out.2.1.keep s7 (show ¬ q + 2 = q by omega)
  have a7 := X6.out.2.2.1.keep s7 hnk
  have MA := mat_any o7 i7
  have y70 := a7.get (i := 0) rfl
  have y71 := a7.get (i := 1) rfl
  have z7 : w7.cell? ⟨mb, 0, none⟩ = some (.int .i64 2) := am7.get (i := 0) rfl
  have X7 := Lib.hid (And.intro am7 (And.intro af7 (And.intro a7 (And.intro (X6.out.2.2.2.1.trans (s7.mono fun j (e : j = q) => by omega)) (And.intro i7 X6.out.2.2.2.2)))))
  clear NI X6 s7 o7 am7 af7 a7 i7 y60 y61 z6
  go_wp2_with fail
  with_reducible refine MA.mono ?_
  rintro e w8 ⟨rfl, c8, s8, o8⟩
  obtain ⟨xm, xf, xa, xs, xi, hb2⟩ := X7.out
  have BY := Bytes_any o8 (xi.kn s8) hq0 (encB b) [] (by have := HZ.out.2.2.2.2.2; omega) hb2 65536 (by have := HZ.out.2.2.2.2.2; omega)
  have a8 := xa.kn s8
  have y80 := a8.get (i := 0) rfl
  have y81 := a8.get (i := 1) rfl
  have hend : bs.length ≤ A2 + (numB (encB b).length ++ encB b).length := by
    have := congrArg List.length hb2
    simp at this ⊢
    omega
  obtain ⟨E, hE⟩ : ∃ E, encB b = E := ⟨_, rfl⟩
  rw [hE] at BY hend
  have X8 := Lib.hid (And.intro (xm.kn s8) (And.intro (xf.kn s8) (And.intro a8 (And.intro (xs.trans s8.ofNo) (And.intro hend hE)))))
  clear MA X7 xm xf xa xs xi hb2 s8 o8 a8 y70 y71 hend hE
  go_wp2_with fail
  with_reducible refine BY.mono ?_
  rintro e w9 ⟨v9, rfl, c9, ow9, i9, s9, o9⟩
  obtain ⟨va9, vn9, rfl, _⟩ := ow9.sl.form
  obtain ⟨xm, xf, xa, xs, hend, hE⟩ := X8.out
  have FN := fine_any o9 i9 bs.length
  have a9 := xa.keep s9 hnk
  have y90 := a9.get (i := 0) rfl
  have y91 := a9.get (i := 1) rfl
  have X9 := Lib.hid (And.intro (xm.keep s9 (show ¬ q + 1 = q by omega)) (And.intro (xf.keep s9 (show ¬ q + 2 = q by omega)) (And.intro a9 (And.intro (xs.trans (s9.mono fun j (e : j = q) => by omega)) (And.intro hend (And.intro hE (And.intro ow9 i9)))))))
  clear BY X8 xm xf xa xs s9 o9 ow9 i9 a9 hend hE y80 y81
  go_wp2_with fail
  with_reducible refine FN.mono ?_
  rintro e w10 ⟨rfl, c10, s10, o10⟩
  obtain ⟨xm, xf, xa, xs, hend, hE, xo, xi⟩ := X9.out
  have slE := (xo.kn s10).sl
  rw [← hE] at slE
  have BD := blockD_ok o10 HZ.out.2.2.2.1 HZ.out.2.2.2.2.1 slE
  rw [hE] at BD
  have X10 := Lib.hid (And.intro (xm.kn s10) (And.intro (xf.kn s10) (And.intro (xa.kn s10) (And.intro (xs.trans s10.ofNo) (And.intro hend (xi.kn s10))))))
  clear FN X9 xm xf xa xs s10 o10 hend hE xo xi slE y90 y91
  go_wp2_with fail
  with_reducible refine BD.mono ?_
  rintro e w11 ⟨R, rfl, hR, hR1, c11, s11, o11⟩
  have hwf : b.h.Wf := by
    obtain ⟨pp, zz, x, y, hp, hz, hx, hy, rfl⟩ := HZ.out.2.2.2.2.1
    exact (hdr1_wf HZ.out.2.2.2.1 hp hz).vals' hx
  have hBl2 : (hdrC b.h ++ R).length = 166 := by rw [List.length_append, hdrC_len hwf, hR]
  have hB1 : ∀ u ∈ hdrC b.h ++ R, u.oneCell' = true := fun u hu => by rcases List.mem_append.1 hu with hu | hu; exact hdrC_one _ u hu; exact hR1 u hu
  have hB5 : (hdrC b.h ++ R)[1]? = some (.int .i64 b.h.height) := by
    rw [List.getElem?_append_left (by rw [hdrC_len hwf]; omega)]
    rfl
  obtain ⟨B, hB⟩ : ∃ B, hdrC b.h ++ R = B := ⟨_, rfl⟩
  rw [hB] at hBl2 hB1 hB5 ⊢
  obtain ⟨ZB, hZB, zB⟩ := zero_block
  obtain ⟨ZF, hZF, zF⟩ := zero_fault
  obtain ⟨W12, W13, c13, hW12, hW13, ax, af, o13, s13, t1, t2, t3, t4, t5, t6⟩ := stnew2 o11 (ty := 59) hZB hBl2 hB1 info_blo hZF (B2 := [.int .i64 0, .int .i64 0]) rfl (by intro v hv; simp only [List.mem_cons, List.not_mem_nil, or_false] at hv; rcases hv with rfl | rfl <;> rfl) info_fault2 (q := q + 3) (q2 := q + 4) (Nat.succ_ne_zero _) (Nat.succ_ne_zero _)
  obtain ⟨xb, hxb⟩ : ∃ b, w11.heap.size = b := ⟨_, rfl⟩
  rw [hxb] at hW12 hW13 ax af t1 t4
  obtain ⟨xm, xf, xa, xs, hend, xi⟩ := X10.out
  have g0 := af.get (i := 0) rfl
  have g1 := af.get (i := 1) rfl
  have s1113 := s11.trans s13
  have xm13 := xm.kn s1113
  have xf13 := xf.kn s1113
  have xa13 := xa.kn s1113
  have xs13 := xs.trans s1113.ofNo
  have xi13 := xi.kn s1113
  have y130 := xa13.get (i := 0) rfl
  -- the answer is written
  have hbu := answer_built id hBl2
  have hAl : (.int .i64 id :: B : List Value).length = 167 := by rw [List.length_cons, hBl2]
  have hA1 : ∀ v ∈ (.int .i64 id :: B : List Value), v.oneCell' = true := fun v hv => by rcases List.mem_cons.1 hv with rfl | hv; rfl; exact hB1 v hv
  obtain ⟨aw, tw⟩ := At.seg (xs := [.int .i64 2, .int .i64 0, .int .i64 0]) (os := zeroAC) (zs := []) (us := .int .i64 id :: B) (by rw [List.append_nil]; exact xm13) o13 (Nat.succ_ne_zero q) (by rw [hAl]; rfl)
  have aw : At c13 (W13.setCells mb 3 (.int .i64 id :: B)) mb (q + 1) (.int .i64 2 :: .int .i64 0 :: .int .i64 0 :: .int .i64 id :: B) := by simpa using aw
  have s14 : Step (One (q + 1)) c13 W13 c13 (W13.setCells mb 3 (.int .i64 id :: B)) := Step.setCells (K := One (q + 1)) (.inr xm13.col) _ _ _ Step.refl
  have o14 := Ok.setCells (b := mb) (.int .i64 id :: B) 3 _ o13
  have xi14 := xi13.keep s14 (show ¬ q = q + 1 by omega) (show ¬ 0 = q + 1 by omega)
  have xf14 := xf13.keep s14 (show ¬ q + 2 = q + 1 by omega)
  have xa14 := xa13.keep s14 (show ¬ 0 = q + 1 by omega)
  have xs14 := xs13.trans (s14.mono fun j (e : j = q + 1) => by omega)
  have HM : RowKit.Hid ((.int .i64 2 :: .int .i64 0 :: .int .i64 0 :: .int .i64 id :: B : List Value).length = 170 ∧ (∀ v ∈ (.int .i64 2 :: .int .i64 0 :: .int .i64 0 :: .int .i64 id :: B : List Value), v.oneCell' = true) ∧ ansM id b.h.height (.int .i64 2 :: .int .i64 0 :: .int .i64 0 :: .int .i64 id :: B)) := by
    have l1 : (.int .i64 2 :: .int .i64 0 :: .int .i64 0 :: .int .i64 id :: B : List Value).length = 170 := by simp [hBl2]
    have l2 : ∀ v ∈ (.int .i64 2 :: .int .i64 0 :: .int .i64 0 :: .int .i64 id :: B : List Value), v.oneCell' = true := fun v hv => by
      rcases List.mem_cons.1 hv with rfl | hv
      · rfl
      rcases List.mem_cons.1 hv with rfl | hv
      · rfl
      rcases List.mem_cons.1 hv with rfl | hv
      · rfl
      exact hA1 v hv
    exact Lib.hid ⟨l1, l2, l1, l2, rfl, rfl, hB5⟩
  obtain ⟨M, hM⟩ : ∃ M : List Value, .int .i64 2 :: .int .i64 0 :: .int .i64 0 :: .int .i64 id :: B = M := ⟨_, rfl⟩
  rw [hM] at aw HM
  obtain ⟨AN, hAN⟩ : ∃ AN : List Value, .int .i64 id :: B = AN := ⟨_, rfl⟩
  rw [hAN] at aw tw s14 o14 xi14 xf14 xa14 xs14 hbu hAl hA1
  obtain ⟨W9, hW9⟩ : ∃ W, W13.setCells mb 3 AN = W := ⟨_, rfl⟩
  rw [hW9] at aw s14 o14 xi14 xf14 xa14 xs14
  have EN := end_any o14 xi14
  rw [endF_all hend] at EN
  have y90 := xa14.get (i := 0) rfl
  have MK := mmust_yes W13 5 A2
  have X9 := Lib.hid (And.intro aw (And.intro xf14 (And.intro xs14 trivial)))
  have TT := Lib.hid (And.intro t1 (And.intro t2 (And.intro t3 (And.intro t4 (And.intro t5 (And.intro t6 (And.intro zB (And.intro zF (And.intro hW12 (And.intro hW13 (And.intro ax.cells (And.intro (show (Tryz.prog.info? 59).map (·.size) = some B.length by rw [info_blo, hBl2]) (And.intro (show W13.there mb 3 AN.toArray.size by simpa using tw) (And.intro (show (Tryz.prog.info? 61).map (·.size) = some AN.toArray.size by rw [info_answer]; simp [hAl]) (And.intro (all_oneCell_toArray hA1) hW9)))))))))))))))
  clear BD X10 s11 o11 hwf hR hR1 hBl2 hB1 hB5 hB hZB zB hZF zF hW12 hW13 ax af o13 s13 t1 t2 t3 t4 t5 t6 xm xf xa xs hend xi s1113 xm13 xf13 xa13 xs13 xi13 hAl hA1 aw tw s14 o14 xi14 xf14 xa14 xs14 hM hAN hW9
  go_wp2_with (first | (refine wpList_alloc_zero rfl (some 8) rfl 59 rfl TT.out.2.2.2.2.2.2.1 ?_; rw [hxb]) | (refine wpList_alloc_zero rfl (some 9) rfl 74 rfl TT.out.2.2.2.2.2.2.2.1 ?_; rw [World.size_alloc, hxb]) | (refine wpList_store_mid rfl 59 _ _ rfl xb 0 B.toArray rfl rfl TT.out.1 TT.out.2.1 TT.out.2.2.1 ?_; rw [TT.out.2.2.2.2.2.2.2.2.1]) | (refine wpList_store_mid rfl 74 _ _ rfl (xb + 1) 0 _ rfl rfl TT.out.2.2.2.1 TT.out.2.2.2.2.1 TT.out.2.2.2.2.2.1 ?_; rw [TT.out.2.2.2.2.2.2.2.2.2.1]))
  with_reducible refine MK.mono ?_
  rintro e w14 ⟨rfl, rfl⟩
  clear MK
  go_wp2_with (first | (refine wpList_load_mid rfl 59 _ rfl xb 0 rfl B _ TT.out.2.2.2.2.2.2.2.2.2.2.1 Tryz.underlying59 rfl TT.out.2.2.2.2.2.2.2.2.2.2.2.1 ?_) | (refine wpList_build_ps rfl (some 64) rfl 61 #[(0, .tmp 62), (1, .tmp 63)] rfl AN (ps := [(0, .int .i64 id), (1, .agg B.toArray)]) (by first | rfl | (simp [Act.eval]; done) | (simp [Act.eval, Act.put]; done) | kernel_rfl | (simp only [Act.eval, Act.put]; rfl)) hbu ?_) | (refine wpList_store_mid rfl 61 _ _ rfl mb 3 AN.toArray rfl rfl TT.out.2.2.2.2.2.2.2.2.2.2.2.2.1 TT.out.2.2.2.2.2.2.2.2.2.2.2.2.2.1 TT.out.2.2.2.2.2.2.2.2.2.2.2.2.2.2.1 ?_; rw [TT.out.2.2.2.2.2.2.2.2.2.2.2.2.2.2.2]))
  with_reducible refine EN.mono ?_
  rintro e wA ⟨rfl, cA, sA, oA⟩
  have amA := X9.out.1.keep sA (fun h => h)
  have afA := X9.out.2.1.keep sA (fun h => h)
  have zA0 : wA.cell? ⟨mb + 1, 0, none⟩ = some (.int .i64 0) := afA.get (i := 0) rfl
  have zA1 : wA.cell? ⟨mb + 1, 1, none⟩ = some (.int .i64 0) := afA.get (i := 1) rfl
  have zAf0 := oA.soft (mb + 1) 0 (by rw [afA.col]; exact Nat.succ_ne_zero _)
  have zAf1 := oA.soft (mb + 1) 1 (by rw [afA.col]; exact Nat.succ_ne_zero _)
  have afB : At cA ((wA.setCell ⟨mb + 1, 0, none⟩ (.int .i64 0)).setCell ⟨mb + 1, 1, none⟩ (.int .i64 0)) (mb + 1) (q + 2) [.int .i64 0, .int .i64 0] := (afA.setN (i := 0) (by simp) (.int .i64 0)).setN (i := 1) (by simp) (.int .i64 0)
  have sB : Step (One (q + 2)) cA wA cA ((wA.setCell ⟨mb + 1, 0, none⟩ (.int .i64 0)).setCell ⟨mb + 1, 1, none⟩ (.int .i64 0)) := ((Step.refl (K := One (q + 2))).setCell (a := ⟨mb + 1, 0, none⟩) (.inr afA.col) _).setCell (a := ⟨mb + 1, 1, none⟩) (.inr afA.col) _
  have oB := (oA.setCell ⟨mb + 1, 0, none⟩ (.int .i64 0)).setCell ⟨mb + 1, 1, none⟩ (.int .i64 0)
  have amB := amA.keep sB (show ¬ q + 1 = q + 2 by omega)
  obtain ⟨WB, hWB⟩ : ∃ W, (wA.setCell ⟨mb + 1, 0, none⟩ (.int .i64 0)).setCell ⟨mb + 1, 1, none⟩ (.int .i64 0) = W := ⟨_, rfl⟩
  rw [hWB] at afB sB oB amB
  have KB : (fun W : World => W.cell? ⟨mb + 1, 0, none⟩ = some (.int .i64 0) ∧ W.cell? ⟨mb + 1, 1, none⟩ = some (.int .i64 0)) WB.drew := ⟨afB.get (i := 0) rfl, afB.get (i := 1) rfl⟩
  have XB := Lib.hid (And.intro amB (And.intro afB (And.intro ((X9.out.2.2.1.trans sA.ofNo).trans (sB.mono fun j (e : j = q + 2) => by omega)) oB)))
  clear EN X9 sA oA amA afA afB sB oB amB
  go_wp2_with fail
  (try rw [hWB])
  refine wp_region_noPanic ?_
  refine region_planM (fun W => W.cell? ⟨mb + 1, 0, none⟩ = some (.int .i64 0) ∧ W.cell? ⟨mb + 1, 1, none⟩ = some (.int .i64 0)) (fun _ => true) (by kernel_rfl) ?_
  refine tk2 0 _ 69 rfl rfl KB ?_
  refine tk2 1 _ 70 rfl rfl KB ?_
  refine tk2 2 _ 71 rfl rfl KB ?_
  refine tk2 3 _ 72 rfl rfl KB ?_
  refine tk2 4 _ 73 rfl rfl KB ?_
  refine tk2 5 _ 74 rfl rfl KB ?_
  refine tk2 6 _ 75 rfl rfl KB ?_
  refine wpAnyM.one (i := 7) (by kernel_rfl) rfl (fun KQ hK => ?_)
  go_simp
  refine (mmust_yes _ 0 0).mono ?_
  rintro e w5 ⟨rfl, rfl⟩
  go_simp
  refine hK.out _ _ (fun _ => KB) ?_
  clear hK KQ
  (try simp only [Act.put, List.setIfInBounds_toArray, List.set_cons_zero, List.set_cons_succ])
  refine wpAnyM.done (by kernel_rfl) (noPanic_normal ?_) _
  go_wp2_with fail
  -- the end
  have amC := XB.out.1.keep (Step.rf.drewN (K := No) 2) (fun h => h)
  have afC := XB.out.2.1.keep (Step.rf.drewN (K := No) 2) (fun h => h)
  have oC := XB.out.2.2.2.drewN 2
  obtain ⟨hMl, hM1, hM⟩ := HM.out
  have hi0 : (Tryz.prog.info? 72).map (·.size) = some (M).length := by rw [info_msg, hMl]
  have hi1 : (Tryz.prog.info? 72).map (·.size) = some (M).toArray.size := by rw [info_msg]; simp [hMl]
  have ht0 := amC.there (o := 0) (n := (M).toArray.size) oC (Nat.succ_ne_zero q) (by simp)
  obtain ⟨_, amD⟩ := amC.st oC (Nat.succ_ne_zero q) (ty := 72) (us := M) rfl hi0 hM1
  have hMall := all_oneCell_toArray hM1
  have sD : Step (One (q + 1)) cA (WB.drewN 2) cA ((WB.drewN 2).setCells mb 0 M) := Step.setCells (K := One (q + 1)) (.inr amC.col) _ _ _ Step.refl
  have afD := afC.keep sD (show ¬ q + 2 = q + 1 by omega)
  have oD := Ok.setCells (b := mb) M 0 _ oC
  have zD0 := afD.get (i := 0) rfl
  have zD1 := afD.get (i := 1) rfl
  have zDf0 : (WB.drew.drew.setCells mb 0 M).frozen? ⟨mb + 1, 0, none⟩ = false := oD.soft (mb + 1) 0 (by rw [afD.col]; exact Nat.succ_ne_zero _)
  have zDf1 : (WB.drew.drew.setCells mb 0 M).frozen? ⟨mb + 1, 1, none⟩ = false := oD.soft (mb + 1) 1 (by rw [afD.col]; exact Nat.succ_ne_zero _)
  have KC : (fun W : World => W.cell? ⟨mb + 1, 0, none⟩ = some (.int .i64 0) ∧ W.cell? ⟨mb + 1, 1, none⟩ = some (.int .i64 0)) WB.drew.drew := ⟨afC.get (i := 0) rfl, afC.get (i := 1) rfl⟩
  have sE : Step (One (q + 2)) cA ((WB.drewN 2).setCells mb 0 M) cA ((((WB.drewN 2).setCells mb 0 M).setCell ⟨mb + 1, 0, none⟩ (.int .i64 0)).setCell ⟨mb + 1, 1, none⟩ (.int .i64 0)) := ((Step.refl (K := One (q + 2))).setCell (a := ⟨mb + 1, 0, none⟩) (.inr afD.col) _).setCell (a := ⟨mb + 1, 1, none⟩) (.inr afD.col) _
  have amE := amD.keep sE (show ¬ q + 1 = q + 2 by omega)
  have afE : At cA ((((WB.drewN 2).setCells mb 0 M).setCell ⟨mb + 1, 0, none⟩ (.int .i64 0)).setCell ⟨mb + 1, 1, none⟩ (.int .i64 0)) (mb + 1) (q + 2) [.int .i64 0, .int .i64 0] := (afD.setN (i := 0) (by simp) (.int .i64 0)).setN (i := 1) (by simp) (.int .i64 0)
  have oE := (oD.setCell ⟨mb + 1, 0, none⟩ (.int .i64 0)).setCell ⟨mb + 1, 1, none⟩ (.int .i64 0)
  have sAll : Step No c w cA ((((WB.drewN 2).setCells mb 0 M).setCell ⟨mb + 1, 0, none⟩ (.int .i64 0)).setCell ⟨mb + 1, 1, none⟩ (.int .i64 0)) :=
    (((XB.out.2.2.1.drewN 2).trans (sD.mono fun j (e : j = q + 1) => by omega)).trans (sE.mono fun j (e : j = q + 2) => by omega)).drop fun b _ e => by have := hqc b; omega
  have FL := Lib.hid (And.intro amC.cells (And.intro hi0 (And.intro ht0 (And.intro hi1 (And.intro hMall (And.intro amE (And.intro afE (And.intro sAll (And.intro oE hM)))))))))
  clear XB amC afC oC hMl hM1 hi0 hi1 ht0 amD hMall sD afD oD sE amE afE oE sAll hM KB
  refine wp_region_noPanic ?_
  refine region_planM (fun W => W.cell? ⟨mb + 1, 0, none⟩ = some (.int .i64 0) ∧ W.cell? ⟨mb + 1, 1, none⟩ = some (.int .i64 0)) (fun i => !([3] : List Nat).contains i) (by kernel_rfl) ?_
  refine tk2 1 _ 78 rfl rfl KC ?_
  refine wpAnyM.one (i := 0) (by kernel_rfl) rfl (fun KQ hK => ?_)
  refine step_load rfl (dd := some 77) rfl 72 _ rfl mb 0 rfl M _ FL.out.1 Tryz.underlying72 rfl FL.out.2.1 ?_
  refine hK.out _ _ (fun _ => KC) ?_
  clear hK KQ
  (try simp only [Act.put, List.setIfInBounds_toArray, List.set_cons_zero, List.set_cons_succ])
  refine wpAnyM.one (i := 2) (by kernel_rfl) rfl (fun KQ hK => ?_)
  refine step_store rfl 72 _ _ rfl mb 0 M.toArray rfl rfl FL.out.2.2.1 FL.out.2.2.2.1 FL.out.2.2.2.2.1 ?_
  simp only [List.toList_toArray]
  have KD : (fun W : World => W.cell? ⟨mb + 1, 0, none⟩ = some (.int .i64 0) ∧ W.cell? ⟨mb + 1, 1, none⟩ = some (.int .i64 0)) (WB.drew.drew.setCells mb 0 M) := ⟨zD0, zD1⟩
  refine hK.out _ _ (fun _ => KD) ?_
  clear hK KQ
  (try simp only [Act.put, List.setIfInBounds_toArray, List.set_cons_zero, List.set_cons_succ])
  refine wpAnyM.one (i := 3) (by kernel_rfl) rfl (fun KQ hK => ?_)
  go_simp
  refine hK.out _ _ (fun h => absurd h (by decide)) ?_
  clear hK KQ
  (try simp only [Act.put, List.setIfInBounds_toArray, List.set_cons_zero, List.set_cons_succ])
  refine wpAnyM.done (by kernel_rfl) (noPanic_normal ?_) _
  go_wp2_with fail
  refine leaves_cons (f := 48) (args := #[.pointer (some ⟨mb, 0, none⟩), .pointer (some ⟨mb + 1, 0, none⟩)]) (by simp) (by simp [go_sem]) ?_
  refine (dec1_idle _ _ _).mono ?_
  rintro e u' w'' ⟨rfl, rfl, rfl⟩
  obtain ⟨_, f2, _, _, _, f6, f7, f8, f9, f10⟩ := FL.out
  exact ⟨_, results_cells2 rfl _ _ mb (mb + 1) M _ _ _ rfl rfl f6.cells Tryz.underlying72 rfl f2 f7.cells Tryz.underlying74 rfl info_fault, M, f10, rfl, cA, f8, f9⟩
end
end Go.Proofs.YtgcobbapaaihiaaGreat

set_option linter.unusedVariables false
set_option linter.unusedSimpArgs false
namespace Go.Proofs.YtgcobbapaaihiaaGreat
open Go.RowKit

theorem decAsk {id h : Int} (hid : idB id = true) (hh : heightB h = true) : Decodes (encA id h) 1 0 0 (fun M => M = msgA 1 id h) := by
  refine ⟨?_, fun c w kx v ho hs => (decodeAsk_ok ho id h hid hh hs).mono (by rintro r w' ⟨rfl, c', st, o⟩; exact ⟨_, rfl, rfl, c', st, o⟩)⟩
  rintro M rfl
  refine ⟨rfl, ?_, rfl⟩
  intro v hv
  simp only [msgA, zeroAC, List.mem_cons] at hv
  rcases hv with rfl | rfl | rfl | rfl | hv
  · rfl
  · rfl
  · rfl
  · rfl
  · exact bloC_one (zeroB_at (fun _ => 0) 0 default) v hv
theorem decAns {id h : Int} {b : Blo} (hid : idB id = true) (hh : 1 ≤ h ∧ h ≤ 3) (hf : Fit h b) : Decodes (encN id b) 2 0 0 (ansM id b.h.height) :=
  ⟨fun M hM => ⟨hM.1, hM.2.1, hM.2.2.1⟩, fun c w kx v ho hs => decodeAns_ok ho hid hh hf hs⟩

section
variable {c : Col} {w : World}

set_option maxRecDepth 100000 in
set_option maxHeartbeats 1600000 in
theorem silent_any (hok : Ok c w) {s : Srv} {k : Nat} {vc vo vm : Value} (hs : s.At c k w vc vo vm) (nth : Int) {bs : List UInt8} {kx : Nat} {v : Value} (hv : Sl TByte c kx 0 w v bs)
    {k1 e0 e1 : Int} {PM : List Value → Prop} (D : Decodes bs k1 e0 e1 PM) {id h : Int} (hask : k1 = 1 → (∀ M, PM M → M = msgA 1 id h) ∧ idB id = true ∧ heightB h = true) (hn : replyT s nth k1 e0 e1 id h = []) :
    Calls Tryz.prog 24 #[.agg #[vc, vo, vm, .int .i64 s.delay, .int .i64 s.slow], v, .int .i64 nth] w fun r w' => r = .returned (.bool true) ∧ ∃ c', Step No c w c' w' ∧ Ok c' w' := by
  obtain ⟨vca, vcc, rfl, _⟩ := hs.chain.form
  obtain ⟨voa, voc, rfl, _⟩ := hs.other.form
  obtain ⟨vma, vmc, rfl, _⟩ := hs.moods.form
  obtain ⟨va, vn, rfl, _⟩ := hv.form
  have a0 := At.new0 hok [.slice vca s.chain.length vcc, .slice voa s.other.length voc, .slice vma s.moods.length vmc, .int .i64 s.delay, .int .i64 s.slow] 25
  have s0 : Step No c w c (w.alloc (.cells #[.slice vca s.chain.length vcc, .slice voa s.other.length voc, .slice vma s.moods.length vmc, .int .i64 s.delay, .int .i64 s.slow] 25)) := Step.refl.alloc _
  have o0 := hok.alloc (.cells #[.slice vca s.chain.length vcc, .slice voa s.other.length voc, .slice vma s.moods.length vmc, .int .i64 s.delay, .int .i64 s.slow] 25)
  have RP := reply_any o0 (hs.kn s0) nth (hv.kn s0) D hask 0
  rw [hn] at RP
  have hw : waitT s nth [] = 0 := rfl
  have hi : isT [] = false := rfl
  rw [hw, hi] at RP
  have X := Lib.hid s0
  obtain ⟨bx, hbx⟩ : ∃ b, w.heap.size = b := ⟨_, rfl⟩
  rw [hbx] at a0
  obtain ⟨W0, hW0⟩ : ∃ W, w.alloc (.cells #[.slice vca s.chain.length vcc, .slice voa s.other.length voc, .slice vma s.moods.length vmc, .int .i64 s.delay, .int .i64 s.slow] 25) = W := ⟨_, rfl⟩
  have hW0' : w.alloc (.cells ([Value.slice vca s.chain.length vcc, .slice voa s.other.length voc, .slice vma s.moods.length vmc, .int .i64 s.delay, .int .i64 s.slow] : List Value).toArray 25) = W0 := hW0
  rw [hW0] at RP X
  rw [hW0'] at a0
  have y0 := a0.get (i := 0) rfl
  have y1 := a0.get (i := 1) rfl
  have y2 := a0.get (i := 2) rfl
  have y3 := a0.get (i := 3) rfl
  have y4 := a0.get (i := 4) rfl
  clear a0 s0 o0 hs hv D hask hok hn hw hi hW0'
  go_enter Tryz.func24, Tryz.ntmps24
  go_wp2_with fail
  (try rw [hW0])
  (try rw [hbx])
  refine RP.mono ?_
  rintro e w1 ⟨x, rfl, c1, sl, s1, o1⟩
  obtain ⟨xa, xn, rfl, _⟩ := sl.form
  have F := Lib.hid (And.intro (X.out.trans s1) o1)
  clear RP sl s1 o1
  go_wp2_with fail
  go_ret
  exact ⟨rfl, c1, F.out⟩

set_option maxRecDepth 100000 in
set_option maxHeartbeats 3200000 in
theorem told_yes (hok : Ok c w) {s : Srv} {k : Nat} {vc vo vm : Value} (hs : s.At c k w vc vo vm) (nth h id hb ticks : Int) {b : Blo} (hh : heightB h = true) (hid : idB id = true) (hbb : 1 ≤ hb ∧ hb ≤ 3) (hf : Fit hb b)
    (hr : replyT s nth 1 0 0 7 h = encN id b) (ht : tickS (moodS s nth) s = ticks) :
    Calls Tryz.prog 26 #[.agg #[vc, vo, vm, .int .i64 s.delay, .int .i64 s.slow], .int .i64 h, .int .i64 nth, .int .i64 id, .int .i64 b.h.height, .int .i64 ticks] w fun r w' => r = .returned (.bool true) ∧ ∃ c', Step No c w c' w' ∧ Ok c' w' := by
  obtain ⟨vca, vcc, rfl, _⟩ := hs.chain.form
  obtain ⟨voa, voc, rfl, _⟩ := hs.other.form
  obtain ⟨vma, vmc, rfl, _⟩ := hs.moods.form
  have a0 := At.new0 hok [.slice vca s.chain.length vcc, .slice voa s.other.length voc, .slice vma s.moods.length vmc, .int .i64 s.delay, .int .i64 s.slow] 25
  have s0 : Step No c w c (w.alloc (.cells #[.slice vca s.chain.length vcc, .slice voa s.other.length voc, .slice vma s.moods.length vmc, .int .i64 s.delay, .int .i64 s.slow] 25)) := Step.refl.alloc _
  have o0 := hok.alloc (.cells #[.slice vca s.chain.length vcc, .slice voa s.other.length voc, .slice vma s.moods.length vmc, .int .i64 s.delay, .int .i64 s.slow] 25)
  have hs0 := hs.kn s0
  obtain ⟨bx, hbx⟩ : ∃ b, w.heap.size = b := ⟨_, rfl⟩
  rw [hbx] at a0
  obtain ⟨C, hC⟩ : ∃ C : List Value, [.slice vca s.chain.length vcc, .slice voa s.other.length voc, .slice vma s.moods.length vmc, .int .i64 s.delay, .int .i64 s.slow] = C := ⟨_, rfl⟩
  have hCl : (Tryz.prog.info? 25).map (·.size) = some C.length := by rw [← hC]; kernel_rfl
  have e0 : (#[.slice vca s.chain.length vcc, .slice voa s.other.length voc, .slice vma s.moods.length vmc, .int .i64 s.delay, .int .i64 s.slow] : Array Value) = C.toArray := by rw [← hC]
  rw [e0] at s0 o0 hs0 ⊢
  rw [hC] at a0
  obtain ⟨W0, hW0⟩ : ∃ W, w.alloc (.cells C.toArray 25) = W := ⟨_, rfl⟩
  rw [hW0] at s0 o0 hs0 a0
  have sd : Step No c W0 c W0.drew := Step.rf.drewN 1
  have od : Ok c W0.drew := o0.drewN 1
  have KN : ∀ {c2 : Col} {w2 : World}, Step No c W0 c2 w2 → (fun W : World => (Instr.loadAt 25 (.pointer (some ⟨bx, 0, none⟩))).run Tryz.prog W = .ok (.agg C.toArray) W) w2 := fun h2 => (a0.kn h2).ld (ty := 25) Tryz.underlying25 rfl hCl
  have KK := KN sd
  have AK := askL_any od 7 h (by decide) hh 0
  have hne : encN id b ≠ [] := by
    intro e
    have := congrArg List.length e
    have h2 : (numB 2).length = 2 := by decide
    simp [encN, h2] at this
  have X := Lib.hid (And.intro hs0 (And.intro (s0.trans sd) (And.intro sd (And.intro hh (And.intro hid (And.intro hbb (And.intro hf (And.intro hr (And.intro ht (And.intro hne e0))))))))))
  clear a0 s0 o0 hs0 hs hok od hh hid hbb hf hr ht hne hC hCl e0
  go_enter Tryz.func26, Tryz.ntmps26
  go_wp2_with fail
  (try rw [hW0])
  (try rw [hbx])
  refine region_planM (fun W => (Instr.loadAt 25 (.pointer (some ⟨bx, 0, none⟩))).run Tryz.prog W = .ok (.agg C.toArray) W) (fun _ => true) (by kernel_rfl) ?_
  refine tk 0 _ 19 rfl rfl (Or.inl ⟨by rfl, fun W hW => by have q0 := hW; exact y_load 25 q0 (.tmp 6) rfl rfl⟩) KK ?_
  refine tk1 1 _ 20 rfl rfl KK ?_
  refine tk1 3 _ 22 rfl rfl KK ?_
  refine wpAnyM.one (i := 2) (by kernel_rfl) rfl (fun KQ hK => ?_)
  go_simp
  refine AK.mono ?_
  rintro e w2 ⟨v2, rfl, c2, sl2, s2, o2⟩
  have KK := KN (sd.trans s2)
  obtain ⟨va2, vn2, rfl, _⟩ := sl2.form
  obtain ⟨hs0, st0, _, hh, hid, hbb, hf, hr, ht, hne, e0⟩ := X.out
  have RP := reply_any o2 ((hs0.kn sd).kn s2) nth sl2 (decAsk (id := 7) (by decide) hh) (id := 7) (h := h) (fun _ => ⟨fun M hM => hM, by decide, hh⟩) 0
  rw [hr, e0, show waitT s nth (encN id b) = ticks by unfold waitT; rw [if_neg hne]; exact ht, show isT (encN id b) = true by unfold isT; rw [if_neg hne]] at RP
  have X2 := Lib.hid (And.intro (st0.trans s2) (sd.trans s2))
  clear AK sl2 s2 o2 hs0 st0 hh hid hbb hf hr ht hne e0
  go_simp
  refine hK.out _ _ (fun _ => KK) ?_
  clear hK KQ
  (try simp only [Act.put, List.setIfInBounds_toArray, List.set_cons_zero, List.set_cons_succ])
  refine wpAnyM.one (i := 4) (by kernel_rfl) rfl (fun KQ hK => ?_)
  go_simp
  refine RP.mono ?_
  rintro e w3 ⟨v3, rfl, c3, sl3, s3, o3⟩
  have KK := KN (X2.out.2.trans s3)
  obtain ⟨va3, vn3, rfl, _⟩ := sl3.form
  have X3 := Lib.hid (And.intro sl3 (And.intro (X2.out.1.trans s3) o3))
  clear RP sl3 s3 o3
  go_simp
  refine hK.out _ _ (fun _ => KK) ?_
  clear hK KQ
  (try simp only [Act.put, List.setIfInBounds_toArray, List.set_cons_zero, List.set_cons_succ])
  refine tk1 5 _ 18 rfl rfl KK ?_
  refine tk1 6 _ 24 rfl rfl KK ?_
  refine tk1 7 _ 25 rfl rfl KK ?_
  refine tk1 8 _ 26 rfl rfl KK ?_
  refine wpAnyM.one (i := 9) (by kernel_rfl) rfl (fun KQ hK => ?_)
  go_simp
  refine hK.out _ _ (fun _ => KK) ?_
  clear hK KQ
  (try simp only [Act.put, List.setIfInBounds_toArray, List.set_cons_zero, List.set_cons_succ])
  refine wpAnyM.one (i := 10) (by kernel_rfl) rfl (fun KQ hK => ?_)
  go_simp
  refine hK.out _ _ (fun _ => KK) ?_
  clear hK KQ
  (try simp only [Act.put, List.setIfInBounds_toArray, List.set_cons_zero, List.set_cons_succ])
  refine wpAnyM.one (i := 11) (by kernel_rfl) rfl (fun KQ hK => ?_)
  go_simp
  refine hK.out _ _ (fun _ => KK) ?_
  clear hK KQ
  (try simp only [Act.put, List.setIfInBounds_toArray, List.set_cons_zero, List.set_cons_succ])
  refine wpAnyM.done (by kernel_rfl) ?_ _
  obtain ⟨_, _, _, hh, hid, hbb, hf, _⟩ := X.out
  have DC := (decAns hid hbb hf).2 c3 w3 0 _ X3.out.2.2 X3.out.1
  clear X KK KN X2 hh hid hbb hf
  go_wp2_with fail
  with_reducible refine DC.mono ?_
  rintro e w4 ⟨M, ⟨hMl, hM1, hM0, hM3, hM5⟩, rfl, c4, s4, o4⟩
  obtain ⟨ZM, hZM, zM⟩ := zero_msg
  obtain ⟨ZF, hZF, zF⟩ := zero_fault
  obtain ⟨W5, W6, c6, hW5, hW6, am, af, o6, s6, t1, t2, t3, t4, t5, t6⟩ := stnew2 o4 hZM hMl hM1 info_msg hZF (B2 := [.int .i64 0, .int .i64 0]) rfl (by intro v hv; simp only [List.mem_cons, List.not_mem_nil, or_false] at hv; rcases hv with rfl | rfl <;> rfl) info_fault2 (q := 1) (q2 := 1) (by decide) (by decide)
  obtain ⟨mb, hmb⟩ : ∃ b, w4.heap.size = b := ⟨_, rfl⟩
  rw [hmb] at hW5 hW6 am af t1 t4
  have y0 := am.get hM0
  have y3 := am.get hM3
  have y5 := am.get hM5
  have g0 := af.get (i := 0) rfl
  have g1 := af.get (i := 1) rfl
  have F := Lib.hid (And.intro ((X3.out.2.1.trans s4).trans s6) o6)
  have TT := Lib.hid (And.intro t1 (And.intro t2 (And.intro t3 (And.intro t4 (And.intro t5 (And.intro t6 (And.intro zM (And.intro zF (And.intro hW5 hW6)))))))))
  clear DC X3 s4 o4 hMl hM1 hM0 hM3 hM5 hZM zM hZF zF hW5 hW6 am af o6 s6 t1 t2 t3 t4 t5 t6
  go_wp2_with (first | (refine wpList_alloc_zero rfl (some 16) rfl 72 rfl TT.out.2.2.2.2.2.2.1 ?_; rw [hmb]) | (refine wpList_alloc_zero rfl (some 17) rfl 74 rfl TT.out.2.2.2.2.2.2.2.1 ?_; rw [World.size_alloc, hmb]) | (refine wpList_store_mid rfl 72 _ _ rfl mb 0 M.toArray rfl rfl TT.out.1 TT.out.2.1 TT.out.2.2.1 ?_; rw [TT.out.2.2.2.2.2.2.2.2.1]) | (refine wpList_store_mid rfl 74 _ _ rfl (mb + 1) 0 _ rfl rfl TT.out.2.2.2.1 TT.out.2.2.2.2.1 TT.out.2.2.2.2.2.1 ?_; rw [TT.out.2.2.2.2.2.2.2.2.2]))
  go_ret
  exact ⟨by first | rfl | simp, c6, F.out⟩
end
end Go.Proofs.YtgcobbapaaihiaaGreat
