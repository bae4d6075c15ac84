/- ServerTurns, part 30: lemmas, each with its own conditions. -/
import Derived.Test.YtgcobbapaaihiaaGreatSt02
import Derived.Test.YtgcobbapaaihiaaGreatSt07
import Derived.Test.YtgcobbapaaihiaaGreatSt14
import Derived.Test.YtgcobbapaaihiaaGreatSt17
import Derived.Test.YtgcobbapaaihiaaGreatSt18
import Derived.Test.YtgcobbapaaihiaaGreatSt24
import Derived.Test.YtgcobbapaaihiaaGreatSt25
import Derived.Test.YtgcobbapaaihiaaGreatSt29
import Derived.LoopN
set_option linter.unusedVariables false
set_option linter.unusedSimpArgs false
namespace Go.Proofs.YtgcobbapaaihiaaGreat
open Go.RowKit

theorem wpList_build_ps {P : Program} {ops : Array Oper} {rest : List Oper} {o : Oper} {a : Act} {w : World} {Q : Exit → Act → World → Prop} (hg : o.guard = none) (dst : Option Tmp) (hdst : o.dst = dst) (ty : TypeId) (parts : Array (Nat × Operand)) (ho : o.op = .build ty parts) (cells : List Value)
    {ps : List (Nat × Value)} (hps : (parts.map fun (i, x) => (i, a.eval x)).toList = ps) (hb : P.built ty ps = some cells.toArray) (h : wpList P ops Q rest (a.put dst (.agg cells.toArray)) w) : wpList P ops Q (o :: rest) a w := by
  subst hps
  exact wpList_build_is hg dst hdst ty parts ho cells hb h
theorem endF_all {bs : List UInt8} {a : Nat} (h : bs.length ≤ a) : endF bs a (0, 0) = (0, 0) := by
  unfold endF
  rw [if_neg (by omega)]

/-- A hash is written into a header. -/
theorem hdr_w1 {c : Col} {w : World} {b k : Nat} {h : Hdr} (hw : h.Wf) (ho : Ok c w) (hk : k ≠ 0) (ha : At c w b k (hdrC h)) {x : List UInt8} (hx : x.length = 32) : At c (w.setCells b 3 (bC x)) b k (hdrC { h with prev := x }) ∧ w.there b 3 (bC x).length := by
  have e : hdrC h = [.string ⟨h.name.toArray⟩, .int .i64 h.height, .int .i64 h.time] ++ (bC h.prev ++ (bC h.vals ++ (bC h.next ++ bC h.app))) := by simp [hdrC]
  rw [e] at ha
  obtain ⟨h1, h2⟩ := ha.seg ho hk (us := bC x) (by rw [bC_len, bC_len, hx, hw.prev])
  exact ⟨by simpa [hdrC] using h1, h2⟩
theorem hdr_w2 {c : Col} {w : World} {b k : Nat} {h : Hdr} (hw : h.Wf) (ho : Ok c w) (hk : k ≠ 0) (ha : At c w b k (hdrC h)) {x : List UInt8} (hx : x.length = 32) : At c (w.setCells b 35 (bC x)) b k (hdrC { h with vals := x }) ∧ w.there b 35 (bC x).length := by
  have e : hdrC h = (.string ⟨h.name.toArray⟩ :: .int .i64 h.height :: .int .i64 h.time :: bC h.prev) ++ (bC h.vals ++ (bC h.next ++ bC h.app)) := by simp [hdrC]
  have el : (.string ⟨h.name.toArray⟩ :: .int .i64 h.height :: .int .i64 h.time :: bC h.prev : List Value).length = 35 := by simp [bC_len, hw.prev]
  rw [e] at ha
  obtain ⟨h1, h2⟩ := ha.seg ho hk (us := bC x) (by rw [bC_len, bC_len, hx, hw.vals])
  rw [el] at h1 h2
  exact ⟨by simpa [hdrC] using h1, h2⟩
theorem hdr_w3 {c : Col} {w : World} {b k : Nat} {h : Hdr} (hw : h.Wf) (ho : Ok c w) (hk : k ≠ 0) (ha : At c w b k (hdrC h)) {x : List UInt8} (hx : x.length = 32) : At c (w.setCells b 67 (bC x)) b k (hdrC { h with next := x }) ∧ w.there b 67 (bC x).length := by
  have e : hdrC h = (.string ⟨h.name.toArray⟩ :: .int .i64 h.height :: .int .i64 h.time :: (bC h.prev ++ bC h.vals)) ++ (bC h.next ++ (bC h.app ++ [])) := by simp [hdrC]
  have el : (.string ⟨h.name.toArray⟩ :: .int .i64 h.height :: .int .i64 h.time :: (bC h.prev ++ bC h.vals) : List Value).length = 67 := by simp [bC_len, hw.prev, hw.vals]
  rw [e] at ha
  obtain ⟨h1, h2⟩ := ha.seg ho hk (us := bC x) (by rw [bC_len, bC_len, hx, hw.next])
  rw [el] at h1 h2
  exact ⟨by simpa [hdrC] using h1, h2⟩
theorem hdr_w4 {c : Col} {w : World} {b k : Nat} {h : Hdr} (hw : h.Wf) (ho : Ok c w) (hk : k ≠ 0) (ha : At c w b k (hdrC h)) {x : List UInt8} (hx : x.length = 32) : At c (w.setCells b 99 (bC x)) b k (hdrC { h with app := x }) ∧ w.there b 99 (bC x).length := by
  have e : hdrC h = (.string ⟨h.name.toArray⟩ :: .int .i64 h.height :: .int .i64 h.time :: (bC h.prev ++ (bC h.vals ++ bC h.next))) ++ (bC h.app ++ []) := by simp [hdrC]
  have el : (.string ⟨h.name.toArray⟩ :: .int .i64 h.height :: .int .i64 h.time :: (bC h.prev ++ (bC h.vals ++ bC h.next)) : List Value).length = 99 := by simp [bC_len, hw.prev, hw.vals, hw.next]
  rw [e] at ha
  obtain ⟨h1, h2⟩ := ha.seg ho hk (us := bC x) (by rw [bC_len, bC_len, hx, hw.app])
  rw [el] at h1 h2
  exact ⟨by simpa [hdrC] using h1, h2⟩

theorem header_built3 (nm : List UInt8) (h t : Int) : Tryz.prog.built 53 [(0, .string ⟨nm.toArray⟩), (1, .int .i64 h), (2, .int .i64 t)] = some (hdrC ⟨nm, h, t, zeros, zeros, zeros, zeros⟩).toArray := by
  rw [header_fill]
  obtain ⟨hz, hz2⟩ := header_zl
  have hz3 : (zeroL 53).drop 3 = bC zeros ++ (bC zeros ++ (bC zeros ++ bC zeros)) := by kernel_rfl
  obtain ⟨Z, hZ⟩ : ∃ Z, zeroL 53 = Z := ⟨_, rfl⟩
  rw [hZ] at hz hz2 hz3 ⊢
  have e1 := fill_next (place := ([(0, 1), (1, 1), (2, 1), (3, 32), (35, 32), (67, 32), (99, 32)].toArray[·]?)) (Pf := []) (Z := Z) (B := [.string ⟨nm.toArray⟩]) (i := 0) (v := .string ⟨nm.toArray⟩) (rest := [(1, .int .i64 h), (2, .int .i64 t)]) rfl rfl (by simp [hz])
  rw [List.nil_append] at e1
  rw [e1]
  have e2 := fill_next (place := ([(0, 1), (1, 1), (2, 1), (3, 32), (35, 32), (67, 32), (99, 32)].toArray[·]?)) (Pf := [] ++ [.string ⟨nm.toArray⟩]) (Z := Z.drop 1) (B := [.int .i64 h]) (i := 1) (v := .int .i64 h) (rest := [(2, .int .i64 t)]) rfl rfl (by simp [hz])
  rw [List.length_singleton, e2]
  have e3 := fill_next (place := ([(0, 1), (1, 1), (2, 1), (3, 32), (35, 32), (67, 32), (99, 32)].toArray[·]?)) (Pf := [] ++ [.string ⟨nm.toArray⟩] ++ [.int .i64 h]) (Z := (Z.drop 1).drop 1) (B := [.int .i64 t]) (i := 2) (v := .int .i64 t) (rest := []) rfl rfl (by simp [hz])
  rw [List.length_singleton, e3, Instr.fill, List.drop_drop, List.drop_drop, List.length_singleton, show (1 + (1 + 1) : Nat) = 3 from rfl, hz3]
  simp [hdrC]

section
variable {c : Col} {w : World}

set_option maxRecDepth 100000 in
set_option maxHeartbeats 6400000 in
theorem headerD_ok (hok : Ok c w) (h : Hdr) (hw : h.Wf) (hc : checkH h = 0) {kx : Nat} {v : Value} (hv : Sl TByte c kx 0 w v (encH h)) :
    Calls Tryz.prog 104 #[v] w fun r w' => r = .returned (.tuple #[.agg (hdrC h).toArray, .agg #[.int .i64 0, .int .i64 0]]) ∧ ∃ c', Step No c w c' w' ∧ Ok c' w' := by
  obtain ⟨q, hq, hqc⟩ := hok.top kx
  have hq0 : q ≠ 0 := by omega
  have hbl : (encH h).length ≤ 190 := encH_len hw hc
  obtain ⟨hn1, hh1, ht1⟩ := checkH_ok hc
  have hnl : h.name.length ≤ 32 := by simp [nameB] at hn1; omega
  have hhn : ((h.height.toNat : Nat) : Int) = h.height ∧ h.height.toNat < 9223372036854775808 := by simp only [heightB, Bool.and_eq_true, decide_eq_true_eq] at hh1; omega
  have htn : ((h.time.toNat : Nat) : Int) = h.time ∧ h.time.toNat < 9223372036854775808 := by simp only [timeB, Bool.and_eq_true, decide_eq_true_eq] at ht1; omega
  obtain ⟨Z, hZ, zH⟩ := zero_header
  obtain ⟨ar, or_, sr⟩ := newAt hok Z 53 (q + 1)
  obtain ⟨af, of_, sf⟩ := newAt or_ [.int .i64 0, .int .i64 0] 74 (q + 2)
  rw [World.size_alloc] at af of_ sf
  obtain ⟨rb, hrb⟩ : ∃ b, w.heap.size = b := ⟨_, rfl⟩
  rw [hrb] at ar or_ sr af of_ sf
  obtain ⟨W1, hW1⟩ : ∃ W, (w.alloc (.cells Z.toArray 53)).alloc (.cells #[.int .i64 0, .int .i64 0] 74) = W := ⟨_, rfl⟩
  have ar1 := ar.kn sf
  have s1 := sr.trans sf
  have hv1 := hv.kn s1
  obtain ⟨bs, hbs⟩ : ∃ bs, encH h = bs := ⟨_, rfl⟩
  rw [hbs] at hv hv1 hbl
  obtain ⟨c1, hc1⟩ : ∃ c1, ((c.put rb (q + 1)).put (rb + 1) (q + 2)) = c1 := ⟨_, rfl⟩
  have hW1' : (w.alloc (.cells Z.toArray 53)).alloc (.cells ([Value.int .i64 0, .int .i64 0] : List Value).toArray 74) = W1 := hW1
  rw [hc1, hW1'] at ar1 s1 hv1 af of_
  have NR := newReader_any of_ hv1 (by omega) q
  obtain ⟨va, vd, rfl, _⟩ := hv.form
  have X := Lib.hid (And.intro ar1 (And.intro af (And.intro s1 hqc)))
  have HZ := Lib.hid (And.intro zH (And.intro hZ (And.intro hbs (And.intro hnl (And.intro hhn (And.intro htn (And.intro hw (And.intro hc hbl))))))))
  clear ar or_ sr af of_ sf ar1 s1 hv1 hv hok hqc zH hZ hbs hbl hn1 hh1 ht1 hnl hhn htn hw hc hc1
  go_enter Tryz.func104, Tryz.ntmps104
  go_wp2_with (refine wpList_alloc_zero rfl (some 2) rfl 53 rfl HZ.out.1 ?_)
  (try simp only [World.size_alloc])
  (try rw [hrb])
  (try rw [hW1])
  with_reducible refine NR.mono ?_
  rintro e w2 ⟨p, rfl, c2, i2, s2, o2, _⟩
  obtain ⟨zH, hZ, hbs, hnl, hhn, htn, hw, hc, hbl⟩ := HZ.out
  have e2 : bs.drop 0 = numB h.name.length ++ (h.name ++ (numB h.height.toNat ++ (numB h.time.toNat ++ (h.prev ++ (h.vals ++ (h.next ++ h.app)))))) := by rw [← hbs, List.drop_zero]; simp [encH]
  have TX := Text_any o2 i2 hq0 h.name _ (by omega) e2 32 (by omega)
  have X2 := Lib.hid (And.intro (X.out.1.kn s2) (And.intro (X.out.2.1.kn s2) (X.out.2.2.1.trans s2)))
  have hqc := Lib.hid X.out.2.2.2
  clear NR X i2 s2 o2 e2 zH hZ hbs hnl hhn htn hw hc hbl
  go_wp2_with fail
  with_reducible refine TX.mono ?_
  rintro e w3 ⟨rfl, c3, i3, s3, o3⟩
  obtain ⟨zH, hZ, hbs, hnl, hhn, htn, hw, hc, hbl⟩ := HZ.out
  have e3 : bs.drop (0 + (numB h.name.length ++ h.name).length) = numB h.height.toNat ++ (numB h.time.toNat ++ (h.prev ++ (h.vals ++ (h.next ++ h.app)))) := by rw [← hbs, Nat.zero_add]; exact List.drop_left
  have N1 := Num_any o3 i3 hq0 h.height.toNat hhn.2 e3
  rw [hhn.1] at N1
  obtain ⟨A1, hA1⟩ : ∃ a, 0 + (numB h.name.length ++ h.name).length + (numB h.height.toNat).length = a := ⟨_, rfl⟩
  rw [hA1] at N1
  have e4 : bs.drop A1 = numB h.time.toNat ++ (h.prev ++ (h.vals ++ (h.next ++ h.app))) := by
    rw [← hA1, ← List.drop_drop, e3, List.drop_left]
  have X3 := Lib.hid (And.intro (X2.out.1.keep s3 (show ¬ q + 1 = q by omega)) (And.intro (X2.out.2.1.keep s3 (show ¬ q + 2 = q by omega)) (And.intro (X2.out.2.2.ofNo.trans s3) e4)))
  clear TX X2 i3 s3 o3 e3 e4 zH hZ hbs hnl hhn htn hw hc hbl hA1
  go_wp2_with fail
  with_reducible refine N1.mono ?_
  rintro e w4 ⟨rfl, c4, i4, s4, o4⟩
  obtain ⟨zH, hZ, hbs, hnl, hhn, htn, hw, hc, hbl⟩ := HZ.out
  have N2 := Num_any o4 i4 hq0 h.time.toNat htn.2 X3.out.2.2.2
  rw [htn.1] at N2
  obtain ⟨A2, hA2⟩ : ∃ a, A1 + (numB h.time.toNat).length = a := ⟨_, rfl⟩
  rw [hA2] at N2
  have e5 : bs.drop A2 = h.prev ++ (h.vals ++ (h.next ++ h.app)) := by
    rw [← hA2, ← List.drop_drop, X3.out.2.2.2, List.drop_left]
  have hL5 : bs.length = A2 + 128 := by
    have := congrArg List.length e5
    simp [hw.prev, hw.vals, hw.next, hw.app] at this
    omega
  have X4 := Lib.hid (And.intro (X3.out.1.keep s4 (show ¬ q + 1 = q by omega)) (And.intro (X3.out.2.1.keep s4 (show ¬ q + 2 = q by omega)) (And.intro (X3.out.2.2.1.trans s4) (And.intro e5 hL5))))
  clear N1 X3 i4 s4 o4 e5 hL5 zH hZ hbs hnl hhn htn hw hc hbl hA2
  go_wp2_with fail
  with_reducible refine N2.mono ?_
  rintro e w5 ⟨rfl, c5, i5, s5, o5⟩
  obtain ⟨zH, hZ, hbs, hnl, hhn, htn, hw, hc, hbl⟩ := HZ.out
  have hw0 : (⟨h.name, h.height, h.time, zeros, zeros, zeros, zeros⟩ : Hdr).Wf := ⟨hw.name, hw.height, hw.time, rfl, rfl, rfl, rfl⟩
  obtain ⟨W6, c6, hW6, a6, o6, s6, t1, t2, t3, t4⟩ := stnew o5 hZ (hdrC_len hw0) (hdrC_one _) info_hdr (q := q + 3) (Nat.succ_ne_zero _)
  obtain ⟨xb, hxb⟩ : ∃ b, w5.heap.size = b := ⟨_, rfl⟩
  rw [hxb] at hW6 a6 t1
  have hbu := header_built3 h.name h.height h.time
  have HS := hashes_any o6 xb
  have i6 := i5.kn s6
  have X5 := Lib.hid (And.intro ((X4.out.1.keep s5 (show ¬ q + 1 = q by omega)).kn s6) (And.intro ((X4.out.2.1.keep s5 (show ¬ q + 2 = q by omega)).kn s6) (And.intro ((X4.out.2.2.1.trans s5).trans s6.ofNo) (And.intro X4.out.2.2.2 (And.intro a6 (And.intro i6 (And.intro o6 hw0)))))))
  obtain ⟨H0, hH0⟩ : ∃ H, hdrC ⟨h.name, h.height, h.time, zeros, zeros, zeros, zeros⟩ = H := ⟨_, rfl⟩
  rw [hH0] at hW6 t1 t2 t3 t4 hbu
  have T5 := Lib.hid (And.intro t1 (And.intro t2 (And.intro t3 hW6)))
  clear N2 X4 i5 s5 o5 hw0 a6 o6 s6 i6 t1 t2 t3 t4 hW6 hH0 zH hZ hbs hnl hhn htn hw hc hbl
  go_wp2_with (first | (refine wpList_alloc_zero rfl (some 5) rfl 53 rfl HZ.out.1 ?_; rw [hxb]) | (refine wpList_build_ps rfl (some 17) rfl 53 #[(0, .tmp 12), (1, .tmp 14), (2, .tmp 16)] rfl H0 (ps := [(0, .string ⟨h.name.toArray⟩), (1, .int .i64 h.height), (2, .int .i64 h.time)]) (by first | rfl | (simp [Act.eval]; done)) hbu ?_) | (refine wpList_store_mid rfl 53 _ _ rfl xb 0 H0.toArray rfl rfl T5.out.1 T5.out.2.1 T5.out.2.2.1 ?_; rw [T5.out.2.2.2]))
  with_reducible refine HS.mono ?_
  rintro e w7 ⟨rfl, c7, s7, o7⟩
  have hix := fun W => index4 ⟨xb, 3, none⟩ ⟨xb, 35, none⟩ ⟨xb, 67, none⟩ ⟨xb, 99, none⟩ W
  have hi0 := fun W => (hix W).1
  have hi1 := fun W => (hix W).2.1
  have hi2 := fun W => (hix W).2.2.1
  have hi3 := fun W => (hix W).2.2.2
  obtain ⟨xr, xf, xs, ⟨xe, xl⟩, xa, xi, xo, xw⟩ := X5.out
  have xi7 := xi.kn s7
  have X7 := Lib.hid (And.intro (xr.kn s7) (And.intro (xf.kn s7) (And.intro (xs.trans s7.ofNo) (And.intro xe (And.intro xl (And.intro (xa.kn s7) xw))))))
  have XW := Lib.hid (And.intro xi7 o7)
  clear HS X5 s7 o7 hix xr xf xs xe xl xa xi xo xw xi7 T5
  have hq3 : q + 3 ≠ 0 := Nat.succ_ne_zero _
  go_wp2_with fail
  refine wp_loop_rounds 5 ?_
  rw [rounds_succ]
  have RH := RHash_any XW.out.2 XW.out.1 hq0 (by have := X7.out.2.2.2.2.1; omega)
  have eT : (bs.drop A2).take 32 = h.prev := by
    obtain ⟨_, _, _, _, _, _, hw, _, _⟩ := HZ.out
    rw [X7.out.2.2.2.1]; exact List.take_left' hw.prev
  rw [eT] at RH
  clear eT XW
  go_wp2_with fail
  with_reducible refine RH.mono ?_
  rintro e wN ⟨rfl, cN, iN, sN, oN⟩
  obtain ⟨xr, xf, xs, xe, xl, xa, xw⟩ := X7.out
  have hx32 : h.prev.length = 32 := by obtain ⟨_, _, _, _, _, _, hw, _, _⟩ := HZ.out; exact hw.prev
  obtain ⟨aw, tw⟩ := hdr_w1 xw oN hq3 (xa.keep sN (show ¬ q + 3 = q by omega)) hx32
  have sw : Step (One (q + 3)) cN wN cN (wN.setCells xb 3 (bC h.prev)) := Step.setCells (K := One (q + 3)) (.inr aw.col) _ _ _ Step.refl
  have ow := Ok.setCells (b := xb) (bC h.prev) 3 _ oN
  have iw := iN.keep sw (show ¬ q = q + 3 by omega) (show ¬ 0 = q + 3 by omega)
  have st' := (xs.trans (sN.mono fun j (e : j = q) => e)).mono (K' := fun j => q ≤ j) fun j (e : j = q) => by omega
  have ww : (⟨h.name, h.height, h.time, h.prev, zeros, zeros, zeros⟩ : Hdr).Wf := ⟨xw.name, xw.height, xw.time, hx32, xw.vals, xw.next, xw.app⟩
  have T7 := Lib.hid (And.intro (show wN.there xb 3 (bC h.prev).toArray.size by simpa using tw) (And.intro (show (Tryz.prog.info? 51).map (·.size) = some (bC h.prev).toArray.size by rw [info_hash]; simp [bC_len, hx32]) (all_oneCell_toArray (bC_one h.prev))))
  have X7 := Lib.hid (And.intro ((xr.keep sN (show ¬ q + 1 = q by omega)).keep sw (show ¬ q + 1 = q + 3 by omega)) (And.intro ((xf.keep sN (show ¬ q + 2 = q by omega)).keep sw (show ¬ q + 2 = q + 3 by omega)) (And.intro (st'.trans (sw.mono fun j (e : j = q + 3) => by omega)) (And.intro xe (And.intro xl (And.intro aw ww))))))
  have XW := Lib.hid (And.intro iw ow)
  obtain ⟨Y, hY⟩ : ∃ Y, bC h.prev = Y := ⟨_, rfl⟩
  obtain ⟨WN, hWN⟩ : ∃ W, wN.setCells xb 3 (bC h.prev) = W := ⟨_, rfl⟩
  rw [hWN] at X7 XW
  rw [hY] at T7 hWN ⊢
  clear RH iN sN oN xr xf xs xe xl xa xw aw tw sw ow iw st' ww hx32 hY
  go_wp2_with (refine wpList_store_mid rfl 51 _ _ rfl xb 3 Y.toArray rfl rfl T7.out.1 T7.out.2.1 T7.out.2.2 ?_; rw [hWN])
  clear T7 hWN
  rw [rounds_succ]
  have RH := RHash_any XW.out.2 XW.out.1 hq0 (by have := X7.out.2.2.2.2.1; omega)
  have eT : (bs.drop (A2 + 32)).take 32 = h.vals := by
    obtain ⟨_, _, _, _, _, _, hw, _, _⟩ := HZ.out
    rw [← List.drop_drop, X7.out.2.2.2.1]
    simp [List.drop_append, List.take_append, hw.prev, hw.vals, hw.next, hw.app]
  rw [eT] at RH
  clear eT XW
  go_wp2_with fail
  with_reducible refine RH.mono ?_
  rintro e wN ⟨rfl, cN, iN, sN, oN⟩
  obtain ⟨xr, xf, xs, xe, xl, xa, xw⟩ := X7.out
  have hx32 : h.vals.length = 32 := by obtain ⟨_, _, _, _, _, _, hw, _, _⟩ := HZ.out; exact hw.vals
  obtain ⟨aw, tw⟩ := hdr_w2 xw oN hq3 (xa.keep sN (show ¬ q + 3 = q by omega)) hx32
  have sw : Step (One (q + 3)) cN wN cN (wN.setCells xb 35 (bC h.vals)) := Step.setCells (K := One (q + 3)) (.inr aw.col) _ _ _ Step.refl
  have ow := Ok.setCells (b := xb) (bC h.vals) 35 _ oN
  have iw := iN.keep sw (show ¬ q = q + 3 by omega) (show ¬ 0 = q + 3 by omega)
  have st' := xs.trans (sN.mono fun j (e : j = q) => by omega)
  have ww : (⟨h.name, h.height, h.time, h.prev, h.vals, zeros, zeros⟩ : Hdr).Wf := ⟨xw.name, xw.height, xw.time, xw.prev, hx32, xw.next, xw.app⟩
  have T7 := Lib.hid (And.intro (show wN.there xb 35 (bC h.vals).toArray.size by simpa using tw) (And.intro (show (Tryz.prog.info? 51).map (·.size) = some (bC h.vals).toArray.size by rw [info_hash]; simp [bC_len, hx32]) (all_oneCell_toArray (bC_one h.vals))))
  have X7 := Lib.hid (And.intro ((xr.keep sN (show ¬ q + 1 = q by omega)).keep sw (show ¬ q + 1 = q + 3 by omega)) (And.intro ((xf.keep sN (show ¬ q + 2 = q by omega)).keep sw (show ¬ q + 2 = q + 3 by omega)) (And.intro (st'.trans (sw.mono fun j (e : j = q + 3) => by omega)) (And.intro xe (And.intro xl (And.intro aw ww))))))
  have XW := Lib.hid (And.intro iw ow)
  obtain ⟨Y, hY⟩ : ∃ Y, bC h.vals = Y := ⟨_, rfl⟩
  obtain ⟨WN, hWN⟩ : ∃ W, wN.setCells xb 35 (bC h.vals) = W := ⟨_, rfl⟩
  rw [hWN] at X7 XW
  rw [hY] at T7 hWN ⊢
  clear RH iN sN oN xr xf xs xe xl xa xw aw tw sw ow iw st' ww hx32 hY
  go_wp2_with (refine wpList_store_mid rfl 51 _ _ rfl xb 35 Y.toArray rfl rfl T7.out.1 T7.out.2.1 T7.out.2.2 ?_; rw [hWN])
  clear T7 hWN
  rw [rounds_succ]
  have RH := RHash_any XW.out.2 XW.out.1 hq0 (by have := X7.out.2.2.2.2.1; omega)
  have eT : (bs.drop (A2 + 32 + 32)).take 32 = h.next := by
    obtain ⟨_, _, _, _, _, _, hw, _, _⟩ := HZ.out
    rw [← List.drop_drop, ← List.drop_drop, X7.out.2.2.2.1]
    simp [List.drop_append, List.take_append, hw.prev, hw.vals, hw.next, hw.app]
  rw [eT] at RH
  clear eT XW
  go_wp2_with fail
  with_reducible refine RH.mono ?_
  rintro e wN ⟨rfl, cN, iN, sN, oN⟩
  obtain ⟨xr, xf, xs, xe, xl, xa, xw⟩ := X7.out
  have hx32 : h.next.length = 32 := by obtain ⟨_, _, _, _, _, _, hw, _, _⟩ := HZ.out; exact hw.next
  obtain ⟨aw, tw⟩ := hdr_w3 xw oN hq3 (xa.keep sN (show ¬ q + 3 = q by omega)) hx32
  have sw : Step (One (q + 3)) cN wN cN (wN.setCells xb 67 (bC h.next)) := Step.setCells (K := One (q + 3)) (.inr aw.col) _ _ _ Step.refl
  have ow := Ok.setCells (b := xb) (bC h.next) 67 _ oN
  have iw := iN.keep sw (show ¬ q = q + 3 by omega) (show ¬ 0 = q + 3 by omega)
  have st' := xs.trans (sN.mono fun j (e : j = q) => by omega)
  have ww : (⟨h.name, h.height, h.time, h.prev, h.vals, h.next, zeros⟩ : Hdr).Wf := ⟨xw.name, xw.height, xw.time, xw.prev, xw.vals, hx32, xw.app⟩
  have T7 := Lib.hid (And.intro (show wN.there xb 67 (bC h.next).toArray.size by simpa using tw) (And.intro (show (Tryz.prog.info? 51).map (·.size) = some (bC h.next).toArray.size by rw [info_hash]; simp [bC_len, hx32]) (all_oneCell_toArray (bC_one h.next))))
  have X7 := Lib.hid (And.intro ((xr.keep sN (show ¬ q + 1 = q by omega)).keep sw (show ¬ q + 1 = q + 3 by omega)) (And.intro ((xf.keep sN (show ¬ q + 2 = q by omega)).keep sw (show ¬ q + 2 = q + 3 by omega)) (And.intro (st'.trans (sw.mono fun j (e : j = q + 3) => by omega)) (And.intro xe (And.intro xl (And.intro aw ww))))))
  have XW := Lib.hid (And.intro iw ow)
  obtain ⟨Y, hY⟩ : ∃ Y, bC h.next = Y := ⟨_, rfl⟩
  obtain ⟨WN, hWN⟩ : ∃ W, wN.setCells xb 67 (bC h.next) = W := ⟨_, rfl⟩
  rw [hWN] at X7 XW
  rw [hY] at T7 hWN ⊢
  clear RH iN sN oN xr xf xs xe xl xa xw aw tw sw ow iw st' ww hx32 hY
  go_wp2_with (refine wpList_store_mid rfl 51 _ _ rfl xb 67 Y.toArray rfl rfl T7.out.1 T7.out.2.1 T7.out.2.2 ?_; rw [hWN])
  clear T7 hWN
  rw [rounds_succ]
  have RH := RHash_any XW.out.2 XW.out.1 hq0 (by have := X7.out.2.2.2.2.1; omega)
  have eT : (bs.drop (A2 + 32 + 32 + 32)).take 32 = h.app := by
    obtain ⟨_, _, _, _, _, _, hw, _, _⟩ := HZ.out
    rw [← List.drop_drop, ← List.drop_drop, ← List.drop_drop, X7.out.2.2.2.1]
    simp [List.drop_append, List.take_append, hw.prev, hw.vals, hw.next, hw.app]
    exact List.take_of_length_le (Nat.le_of_eq hw.app)
  rw [eT] at RH
  clear eT XW
  go_wp2_with fail
  with_reducible refine RH.mono ?_
  rintro e wN ⟨rfl, cN, iN, sN, oN⟩
  obtain ⟨xr, xf, xs, xe, xl, xa, xw⟩ := X7.out
  have hx32 : h.app.length = 32 := by obtain ⟨_, _, _, _, _, _, hw, _, _⟩ := HZ.out; exact hw.app
  obtain ⟨aw, tw⟩ := hdr_w4 xw oN hq3 (xa.keep sN (show ¬ q + 3 = q by omega)) hx32
  have sw : Step (One (q + 3)) cN wN cN (wN.setCells xb 99 (bC h.app)) := Step.setCells (K := One (q + 3)) (.inr aw.col) _ _ _ Step.refl
  have ow := Ok.setCells (b := xb) (bC h.app) 99 _ oN
  have iw := iN.keep sw (show ¬ q = q + 3 by omega) (show ¬ 0 = q + 3 by omega)
  have st' := xs.trans (sN.mono fun j (e : j = q) => by omega)
  have ww : (⟨h.name, h.height, h.time, h.prev, h.vals, h.next, h.app⟩ : Hdr).Wf := ⟨xw.name, xw.height, xw.time, xw.prev, xw.vals, xw.next, hx32⟩
  have T7 := Lib.hid (And.intro (show wN.there xb 99 (bC h.app).toArray.size by simpa using tw) (And.intro (show (Tryz.prog.info? 51).map (·.size) = some (bC h.app).toArray.size by rw [info_hash]; simp [bC_len, hx32]) (all_oneCell_toArray (bC_one h.app))))
  have X7 := Lib.hid (And.intro ((xr.keep sN (show ¬ q + 1 = q by omega)).keep sw (show ¬ q + 1 = q + 3 by omega)) (And.intro ((xf.keep sN (show ¬ q + 2 = q by omega)).keep sw (show ¬ q + 2 = q + 3 by omega)) (And.intro (st'.trans (sw.mono fun j (e : j = q + 3) => by omega)) (And.intro xe (And.intro xl (And.intro aw ww))))))
  have XW := Lib.hid (And.intro iw ow)
  obtain ⟨Y, hY⟩ : ∃ Y, bC h.app = Y := ⟨_, rfl⟩
  obtain ⟨WN, hWN⟩ : ∃ W, wN.setCells xb 99 (bC h.app) = W := ⟨_, rfl⟩
  rw [hWN] at X7 XW
  rw [hY] at T7 hWN ⊢
  clear RH iN sN oN xr xf xs xe xl xa xw aw tw sw ow iw st' ww hx32 hY
  go_wp2_with (refine wpList_store_mid rfl 51 _ _ rfl xb 99 Y.toArray rfl rfl T7.out.1 T7.out.2.1 T7.out.2.2 ?_; rw [hWN])
  clear T7 hWN
  rw [rounds_succ]
  have EN := end_any XW.out.2 XW.out.1
  rw [endF_all (by have := X7.out.2.2.2.2.1; omega)] at EN
  clear XW hi0 hi1 hi2 hi3
  go_wp2_with fail
  with_reducible refine EN.mono ?_
  rintro e wE ⟨rfl, cE, sE, oE⟩
  obtain ⟨xr, xf, xs, _, _, xa, xw⟩ := X7.out
  obtain ⟨ag, og, sg⟩ := newAt oE [.int .i64 0, .int .i64 0] 74 (q + 4)
  obtain ⟨fb, hfb⟩ : ∃ b, wE.heap.size = b := ⟨_, rfl⟩
  rw [hfb] at ag og sg
  obtain ⟨W8, hW8⟩ : ∃ W, wE.alloc (.cells #[.int .i64 0, .int .i64 0] 74) = W := ⟨_, rfl⟩
  have hW8' : wE.alloc (.cells ([Value.int .i64 0, .int .i64 0] : List Value).toArray 74) = W8 := hW8
  rw [hW8'] at ag og sg
  have CK := check_any og h (by obtain ⟨_, _, _, _, _, _, hw, _, _⟩ := HZ.out; exact hw)
  rw [show checkH h = 0 by obtain ⟨_, _, _, _, _, _, _, hc, _⟩ := HZ.out; exact hc] at CK
  have sEg := sE.trans sg
  have xa8 := xa.kn sEg
  have yg0 := ag.get (i := 0) rfl
  have yg1 := ag.get (i := 1) rfl
  have hil : (Tryz.prog.info? 53).map (·.size) = some (hdrC h).length := by obtain ⟨_, _, _, _, _, _, hw, _, _⟩ := HZ.out; rw [info_hdr, hdrC_len hw]
  have X8 := Lib.hid (And.intro (xr.kn sEg) (And.intro (xf.kn sEg) (And.intro (xs.trans sEg.ofNo) (And.intro ag xa8))))
  have LD := Lib.hid (And.intro xa8.cells hil)
  obtain ⟨H, hH⟩ : ∃ H, hdrC h = H := ⟨_, rfl⟩
  rw [show hdrC ⟨h.name, h.height, h.time, h.prev, h.vals, h.next, h.app⟩ = H from hH] at X8 LD
  rw [hH] at CK
  have HH := Lib.hid hH
  have HW8 := Lib.hid hW8
  clear hW8 hW8'
  clear yg0 yg1
  clear EN X7 sE oE xr xf xs xa xw ag og sg sEg xa8 hil hH
  go_wp2_with (refine wpList_load_mid rfl 53 _ rfl xb 0 rfl H _ (by first | exact LD.out.1 | (rw [HW8.out]; exact LD.out.1)) Tryz.underlying53 rfl LD.out.2 ?_)
  (try rw [HW8.out])
  with_reducible refine CK.mono ?_
  rintro e w9 ⟨rfl, c9, s9, o9⟩
  obtain ⟨xr, xf, xs, ag, xa⟩ := X8.out
  have ag9 := ag.kn s9
  have yg0 := ag9.get (i := 0) rfl
  have yf0 := ag9.fz o9 (Nat.succ_ne_zero _) 0
  have agA : At c9 (w9.setCell ⟨fb, 0, none⟩ (.int .i64 0)) fb (q + 4) [.int .i64 0, .int .i64 0] := ag9.setN (i := 0) (by simp) (.int .i64 0)
  have sA : Step (One (q + 4)) c9 w9 c9 (w9.setCell ⟨fb, 0, none⟩ (.int .i64 0)) := (Step.refl (K := One (q + 4))).setCell (a := ⟨fb, 0, none⟩) (.inr ag9.col) _
  have oA := o9.setCell ⟨fb, 0, none⟩ (.int .i64 0)
  have xrA := (xr.kn s9).keep sA (show ¬ q + 1 = q + 4 by omega)
  have xfA := (xf.kn s9).keep sA (show ¬ q + 2 = q + 4 by omega)
  have xaA := (xa.kn s9).keep sA (show ¬ q + 3 = q + 4 by omega)
  have xsA := (xs.trans s9.ofNo).trans (sA.mono fun j (e : j = q + 4) => by omega)
  obtain ⟨WA, hWA⟩ : ∃ W, w9.setCell ⟨fb, 0, none⟩ (.int .i64 0) = W := ⟨_, rfl⟩
  rw [hWA] at agA sA oA xrA xfA xaA xsA
  have zA0 := agA.get (i := 0) rfl
  have zA1 := agA.get (i := 1) rfl
  have sd : Step No c9 WA c9 WA.drew := Step.rf.drewN 1
  have od : Ok c9 WA.drew := oA.drewN 1
  have hHl : (Tryz.prog.info? 53).map (·.size) = some H.length := LD.out.2
  have KN : ∀ {K : Nat → Prop} {c2 : Col} {w2 : World}, ¬ K (q + 3) → ¬ K (q + 4) → Step K c9 WA c2 w2 → (fun W : World => (Instr.loadAt 53 (.pointer (some ⟨xb, 0, none⟩))).run Tryz.prog W = .ok (.agg H.toArray) W ∧ W.cell? ⟨fb, 0, none⟩ = some (.int .i64 0) ∧ W.cell? ⟨fb, 1, none⟩ = some (.int .i64 0)) w2 :=
    fun n3 n4 h2 => ⟨(xaA.keep h2 n3).ld (ty := 53) Tryz.underlying53 rfl hHl, (agA.keep h2 n4).get (i := 0) rfl, (agA.keep h2 n4).get (i := 1) rfl⟩
  have KK := KN (fun h => h) (fun h => h) sd
  have hZ : Z.length = 131 := HZ.out.2.1
  have hHlen : H.length = 131 := by have := hHl; rw [info_hdr] at this; simpa using this.symm
  have hH1 : ∀ u ∈ H, u.oneCell' = true := by rw [← HH.out]; exact hdrC_one h
  have xrD := xrA.kn sd
  have ht0 := xrD.there (o := 0) (n := H.toArray.size) od (Nat.succ_ne_zero q) (by simp [hHlen, hZ])
  obtain ⟨_, aR⟩ := xrD.st od (Nat.succ_ne_zero q) (ty := 53) (us := H) (by rw [hHlen, hZ]) (by rw [info_hdr, hHlen]) hH1
  have sR : Step (One (q + 1)) c9 WA.drew c9 (WA.drew.setCells rb 0 H) := Step.setCells (K := One (q + 1)) (.inr xrD.col) _ _ _ Step.refl
  have oR := Ok.setCells (b := rb) H 0 _ od
  have KR := KN (show ¬ (One (q + 1)) (q + 3) from fun (h : q + 3 = q + 1) => by omega) (show ¬ (One (q + 1)) (q + 4) from fun (h : q + 4 = q + 1) => by omega) (sd.ofNo.trans sR)
  have xfR := (xfA.kn sd).keep sR (show ¬ q + 2 = q + 1 by omega)
  have z0 := xfR.get (i := 0) rfl
  have z1 := xfR.get (i := 1) rfl
  have zf0 := xfR.fz oR (Nat.succ_ne_zero _) 0
  have zf1 := xfR.fz oR (Nat.succ_ne_zero _) 1
  have aF : At c9 (((WA.drew.setCells rb 0 H).setCell ⟨rb + 1, 0, none⟩ (.int .i64 0)).setCell ⟨rb + 1, 1, none⟩ (.int .i64 0)) (rb + 1) (q + 2) [.int .i64 0, .int .i64 0] := (xfR.setN (i := 0) (by simp) (.int .i64 0)).setN (i := 1) (by simp) (.int .i64 0)
  have sF : Step (One (q + 2)) c9 (WA.drew.setCells rb 0 H) c9 (((WA.drew.setCells rb 0 H).setCell ⟨rb + 1, 0, none⟩ (.int .i64 0)).setCell ⟨rb + 1, 1, none⟩ (.int .i64 0)) := ((Step.refl (K := One (q + 2))).setCell (a := ⟨rb + 1, 0, none⟩) (.inr xfR.col) _).setCell (a := ⟨rb + 1, 1, none⟩) (.inr xfR.col) _
  have oF := (oR.setCell ⟨rb + 1, 0, none⟩ (.int .i64 0)).setCell ⟨rb + 1, 1, none⟩ (.int .i64 0)
  have aRF := aR.keep sF (show ¬ q + 1 = q + 2 by omega)
  have sAll : Step No c w c9 (((WA.drew.setCells rb 0 H).setCell ⟨rb + 1, 0, none⟩ (.int .i64 0)).setCell ⟨rb + 1, 1, none⟩ (.int .i64 0)) := (((xsA.trans sd.ofNo).trans (sR.mono fun j (e : j = q + 1) => by omega)).trans (sF.mono fun j (e : j = q + 2) => by omega)).drop fun b _ e => by have := hqc.out b; omega
  have FL := Lib.hid (And.intro ht0 (And.intro (show (Tryz.prog.info? 53).map (·.size) = some H.toArray.size by rw [info_hdr]; simp [hHlen]) (And.intro (all_oneCell_toArray hH1) (And.intro aRF.cells (And.intro aF.cells (And.intro sAll (And.intro oF hHl)))))))
  clear CK X8 s9 o9 xr xf xs ag xa ag9 agA sA oA xrA xfA xaA xsA sd od KN hZ hHlen hH1 xrD ht0 aR sR oR xfR aF sF oF aRF sAll hHl
  go_wp2_with fail
  (try rw [hWA])
  refine region_planM (fun W => (Instr.loadAt 53 (.pointer (some ⟨xb, 0, none⟩))).run Tryz.prog W = .ok (.agg H.toArray) W ∧ W.cell? ⟨fb, 0, none⟩ = some (.int .i64 0) ∧ W.cell? ⟨fb, 1, none⟩ = some (.int .i64 0)) (fun i => !([3] : List Nat).contains i) (by kernel_rfl) ?_
  refine tk 0 _ 40 rfl rfl (Or.inl ⟨by rfl, fun W hW => by obtain ⟨q0, q1, q2⟩ := hW; exact y_load 53 q0 (.tmp 5) rfl rfl⟩) KK ?_
  refine tk3 1 _ 41 rfl rfl KK ?_
  refine wpAnyM.one (i := 2) (by kernel_rfl) rfl (fun KQ hK => ?_)
  refine step_store rfl 53 _ _ rfl rb 0 H.toArray rfl rfl FL.out.1 FL.out.2.1 FL.out.2.2.1 ?_
  simp only [List.toList_toArray]
  refine hK.out _ _ (fun _ => KR) ?_
  clear hK KQ
  (try simp only [Act.put, List.setIfInBounds_toArray, List.set_cons_zero, List.set_cons_succ])
  refine wpAnyM.one (i := 3) (by kernel_rfl) rfl (fun KQ hK => ?_)
  go_simp
  refine hK.out _ _ (fun h => absurd h (by decide)) ?_
  clear hK KQ
  (try simp only [Act.put, List.setIfInBounds_toArray, List.set_cons_zero, List.set_cons_succ])
  refine wpAnyM.done (by kernel_rfl) ?_ _
  go_wp2_with fail
  obtain ⟨_, _, _, f4, f5, f6, f7, f8⟩ := FL.out
  refine bodyPost_ret (results_cells2 rfl _ _ rb (rb + 1) H _ _ _ rfl rfl f4 Tryz.underlying53 rfl f8 f5 Tryz.underlying74 rfl info_fault) rfl ⟨by rw [HH.out], c9, f6, f7⟩
end
end Go.Proofs.YtgcobbapaaihiaaGreat
