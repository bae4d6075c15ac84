/- ServerKnown, part 31: lemmas, each with its own conditions. -/
import Derived.Test.YtgcobbapaaihiaaGreatSk03
import Derived.Test.YtgcobbapaaihiaaGreatSk25
import Derived.Test.YtgcobbapaaihiaaGreatSk30
set_option linter.unusedVariables false
set_option linter.unusedSimpArgs false
namespace Go.Proofs.YtgcobbapaaihiaaGreat
open Go.RowKit

theorem bytI : (Tryz.prog.info? 26).map (·.size) = some 1 := by kernel_rfl
theorem index3 (a b d : Option Addr) (la ca lb cb ld cd : Nat) (W : World) :
    (Instr.index 316 (.agg #[.slice a la ca, .slice b lb cb, .slice d ld cd]) (.int .i64 0)).run Tryz.prog W = .ok (.slice a la ca) W ∧
    (Instr.index 316 (.agg #[.slice a la ca, .slice b lb cb, .slice d ld cd]) (.int .i64 1)).run Tryz.prog W = .ok (.slice b lb cb) W ∧
    (Instr.index 316 (.agg #[.slice a la ca, .slice b lb cb, .slice d ld cd]) (.int .i64 2)).run Tryz.prog W = .ok (.slice d ld cd) W := by
  have hs : (sizeOf 26).run Tryz.prog W = .ok 1 W := by
    cases hq : Tryz.prog.info? 26 with
    | none => have := bytI; rw [hq] at this; cases this
    | some i =>
      have : i.size = 1 := by have := bytI; rw [hq] at this; simpa using this
      simp [sizeOf, typeInfo, hq, this]
  have hu := run_underlying Tryz.underlying316 W
  have hu2 := run_underlying Tryz.underlying26 W
  refine ⟨?_, ?_, ?_⟩ <;> simp [Instr.index, asIntOf, hu, hu2, part, isAgg, hs, Value.cells]

def lpB (x : List UInt8) : List UInt8 := numB x.length ++ x
def encB (b : Blo) : List UInt8 := lpB (encH b.h) ++ (lpB (encC b.cm) ++ lpB (encV b.vals))
def checkB (b : Blo) : Int := firstE (partsE b)

theorem checkB_ok {b : Blo} (h : checkB b = 0) : checkH b.h = 0 ∧ checkV b.vals = 0 ∧ checkC b.cm = 0 := by
  unfold checkB partsE at h
  simp only [firstE] at h
  split at h
  · next h1 => exact absurd h h1
  · next h1 =>
    split at h
    · next h2 => exact absurd h h2
    · next h2 =>
      split at h
      · next h3 => exact absurd h h3
      · next h3 => exact ⟨Classical.byContradiction h1, Classical.byContradiction h2, Classical.byContradiction h3⟩

theorem encH_len {h : Hdr} (hw : h.Wf) (hc : checkH h = 0) : (encH h).length ≤ 190 := by
  have h0 := encH0_len hc
  rw [← encH_eq]
  have h4 := flat_le (hashL h) 4
  simp only [hashL, List.flatten_cons, List.flatten_nil, List.length_append, List.length_nil, hw.prev, hw.vals, hw.next, hw.app] at h4
  simp only [hashL, List.length_append] at *
  omega
theorem encC_len {x : Cmt} (hh : x.hash.length = 32) (hc : checkC x = 0) : (encC x).length ≤ 1200 := by
  have h0 := encC0_len hh
  have h1 := cB_len x.votes
  have := (checkC_ok hc).2.2.1
  rw [← encC_eq, List.length_append]; omega
theorem encV_len {l : List Vld} (hl : ∀ x ∈ l, x.key.length = 4) (hc : checkV l = 0) : (encV l).length ≤ 900 := by
  have h1 := vB_len hl
  have := (checkV_ok hc).2.1
  have h2 := numB_len l.length
  show (numB l.length ++ (l.map vB).flatten).length ≤ 900
  rw [List.length_append]; omega

theorem encB_len {b : Blo} {c : Col} {k : Nat} {w : World} {vc vv : Value} (hb : b.At c k w vc vv) (hc : checkB b = 0) : (encB b).length ≤ 2400 := by
  obtain ⟨h1, h2, h3⟩ := checkB_ok hc
  have a := encH_len hb.h h1
  have d := encC_len hb.hash h3
  have e := encV_len (fun x hx => (hb.vals.val x hx).1) h2
  have n1 := numB_len (encH b.h).length
  have n2 := numB_len (encC b.cm).length
  have n3 := numB_len (encV b.vals).length
  simp only [encB, lpB, List.length_append]; omega

def partL (b : Blo) : List (List UInt8) := [lpB (encH b.h), lpB (encC b.cm), lpB (encV b.vals)]
theorem partL_all (b : Blo) : ((partL b).take 3).flatten = encB b := by simp [partL, encB]
theorem partL_le (b : Blo) (i : Nat) : ((partL b).take i).flatten.length ≤ (encB b).length := by
  have := flat_le (partL b) i
  rw [← partL_all]; simpa [partL] using this

section
variable {c : Col} {w : World}

set_option maxRecDepth 100000 in
set_option maxHeartbeats 1600000 in
theorem encodeB_bad (hok : Ok c w) {b : Blo} {k : Nat} {vc vv : Value} (hb : b.At c k w vc vv) (hc : checkB b ≠ 0) :
    Calls Tryz.prog 243 #[.agg (bloC b vc vv).toArray] w fun r w' => r = .returned (.tuple #[.slice none 0 0, .int .i64 (checkB b)]) ∧ ∃ c', Step No c w c' w' ∧ Ok c' w' := by
  have a0 := At.new0 hok (bloC b vc vv) 59
  have o0 := hok.alloc (.cells (bloC b vc vv).toArray 59)
  have s0 : Step No c w c (w.alloc (.cells (bloC b vc vv).toArray 59)) := Step.refl.alloc _
  have PT := parts_any o0 (bloC b vc vv)
  have hl := bloC_len hb.h hb.hash vc vv
  obtain ⟨e0, he⟩ : ∃ e, checkB b = e := ⟨_, rfl⟩
  obtain ⟨xb, hxb⟩ : ∃ b, w.heap.size = b := ⟨_, rfl⟩
  rw [hxb] at a0
  obtain ⟨B, hB⟩ : ∃ B, bloC b vc vv = B := ⟨_, rfl⟩
  have hi : Hid ((Tryz.prog.info? 59).map (·.size) = some B.length) := Lib.hid (by rw [info_blo, ← hB, hl])
  rw [he] at hc ⊢
  rw [hB] at a0 o0 s0 PT ⊢
  have hc2 : (e0 != 0) = true := by rw [bne_iff_ne]; exact hc
  have X0 := Lib.hid (And.intro a0.cells (And.intro (hb.kn s0) (And.intro s0 (And.intro hB he))))
  clear a0 o0 s0 hb hok hl hB he
  go_enter Tryz.func243, Tryz.ntmps243
  go_wp2_with (refine wpList_load_mid rfl 59 _ rfl xb 0 rfl B _ X0.out.1 Tryz.underlying59 rfl hi.out ?_)
  with_reducible refine PT.mono ?_
  rintro e w1 ⟨bx, g, rfl, c1, a1, g1, s1, o1⟩
  have ER := errors_any o1 (v := .slice (some ⟨g, 0, none⟩) 3 3) rfl
  have X1 := Lib.hid (And.intro a1 (And.intro g1 (And.intro (X0.out.2.1.kn s1) (X0.out.2.2.1.trans s1))))
  clear PT a1 g1 s1 o1
  go_wp2_with fail
  with_reducible refine ER.mono ?_
  rintro e w2 ⟨B1, rfl, a2, s2, o2⟩
  have FX := first_any o2 a2 (X1.out.2.1.keep s2 (fun h => h)) (by rw [X0.out.2.2.2.1]; exact X1.out.1.keep s2 (fun h => h)) (X1.out.2.2.1.kn s2)
  rw [show firstE (partsE b) = e0 from X0.out.2.2.2.2] at FX
  have X2 := Lib.hid (X1.out.2.2.2.trans s2)
  clear ER a2 s2 o2
  go_wp2_with fail
  with_reducible refine FX.mono ?_
  rintro e w3 ⟨rfl, c3, s3, o3⟩
  have X3 := Lib.hid (And.intro (X2.out.trans s3) o3)
  clear FX s3 o3
  go_wp2_with fail
  go_ret2
  exact ⟨rfl, c3, X3.out⟩

set_option maxRecDepth 100000 in
set_option maxHeartbeats 3200000 in
theorem encodeB_ok (hok : Ok c w) {b : Blo} {k : Nat} {vc vv : Value} (hb : b.At c k w vc vv) (hc : checkB b = 0) (ky : Nat) :
    Calls Tryz.prog 243 #[.agg (bloC b vc vv).toArray] w fun r w' => ∃ v', r = .returned (.tuple #[v', .int .i64 0]) ∧ ∃ c', Sl TByte c' ky 0 w' v' (encB b) ∧ Step No c w c' w' ∧ Ok c' w' := by
  obtain ⟨q, hq, hqc⟩ := hok.top k
  have hq0 : q ≠ 0 := by omega
  have n0 : ∀ {x}, x < q → ¬ Two q (q + 1) x := fun hx h => by rcases h with h | h <;> omega
  have hlen := encB_len hb hc
  have hparts := checkB_ok hc
  have a0 := At.new0 hok (bloC b vc vv) 59
  have o0 := hok.alloc (.cells (bloC b vc vv).toArray 59)
  have s0 : Step No c w c (w.alloc (.cells (bloC b vc vv).toArray 59)) := Step.refl.alloc _
  have PT := parts_any o0 (bloC b vc vv)
  have hl := bloC_len hb.h hb.hash vc vv
  obtain ⟨xb, hxb⟩ : ∃ b, w.heap.size = b := ⟨_, rfl⟩
  rw [hxb] at a0
  have hhl := hdrC_len hb.h
  have hcl := cmC_len hb.hash vc
  obtain ⟨hat1, hat2, hat3⟩ := bloC_at hb.h hb.hash a0.cells
  obtain ⟨B, hB⟩ : ∃ B, bloC b vc vv = B := ⟨_, rfl⟩
  have hi : Hid ((Tryz.prog.info? 59).map (·.size) = some B.length) := Lib.hid (by rw [info_blo, ← hB, hl])
  rw [hB] at a0 o0 s0 PT hat1 hat2 hat3 ⊢
  obtain ⟨W0, hW0⟩ : ∃ W, w.alloc (.cells B.toArray 59) = W := ⟨_, rfl⟩
  rw [hW0] at a0 o0 s0 PT hat1 hat2 hat3
  have X0 := Lib.hid (And.intro a0 (And.intro (hb.kn s0) (And.intro s0 (And.intro hB hc))))
  have HP := Lib.hid (And.intro hparts (And.intro hlen (And.intro hhl (And.intro hcl (And.intro hat1 (And.intro hat2 hat3))))))
  clear a0 o0 s0 hb hok hl hB hc hparts hlen hhl hcl hat1 hat2 hat3
  go_enter Tryz.func243, Tryz.ntmps243
  go_wp2_with (refine wpList_load_mid rfl 59 _ rfl xb 0 rfl B _ X0.out.1.cells Tryz.underlying59 rfl hi.out ?_)
  (try rw [hW0])
  with_reducible refine PT.mono ?_
  rintro e w1 ⟨bx, g, rfl, c1, a1, g1, s1, o1⟩
  have ER := errors_any o1 (v := .slice (some ⟨g, 0, none⟩) 3 3) rfl
  have X1 := Lib.hid (And.intro a1 (And.intro g1 (And.intro (X0.out.2.1.kn s1) s1)))
  clear PT a1 g1 s1 o1
  go_wp2_with fail
  with_reducible refine ER.mono ?_
  rintro e w2 ⟨B1, rfl, a2, s2, o2⟩
  have FX := first_any o2 a2 (X1.out.2.1.keep s2 (fun h => h)) (by rw [X0.out.2.2.2.1]; exact X1.out.1.keep s2 (fun h => h)) (X1.out.2.2.1.kn s2)
  rw [show firstE (partsE b) = 0 from X0.out.2.2.2.2] at FX
  have X2 := Lib.hid (X1.out.2.2.2.trans s2)
  clear ER a2 s2 o2
  go_wp2_with fail
  with_reducible refine FX.mono ?_
  rintro e w3 ⟨rfl, c3, s3, o3⟩
  have N := newWriter_any o3 65536 (by omega) (by omega) q (q + 1)
  have X3 := Lib.hid (X2.out.trans s3)
  clear FX s3 o3 X1 X2
  go_wp2_with fail
  with_reducible refine N.mono ?_
  rintro e w4 ⟨rfl, c4, i4, s4, o4⟩
  obtain ⟨p, hp⟩ : ∃ p, w3.heap.size = p := ⟨_, rfl⟩
  rw [hp] at i4 ⊢
  have t4 := X3.out.trans s4
  have EH := encodeH_ok o4 b.h X0.out.2.1.h HP.out.1.1 0
  have at4 := X0.out.1.keep t4 (fun h => h)
  have hH : CellsAt w4 xb 0 (hdrC b.h) ∧ (Tryz.prog.info? 53).map (·.size) = some (hdrC b.h).length := ⟨HP.out.2.2.2.2.1.kn t4 X0.out.1.lt, by rw [info_hdr, HP.out.2.2.1]⟩
  obtain ⟨BH, hBH⟩ : ∃ X, hdrC b.h = X := ⟨_, rfl⟩
  rw [hBH] at EH hH
  have SH := Lib.hid hH
  have X4 := Lib.hid (And.intro i4 t4)
  clear N i4 s4 o4 X3 hp at4 hH hBH t4
  go_wp2_with (refine wpList_load_mid rfl 53 _ rfl xb 0 rfl BH _ SH.out.1 Tryz.underlying53 rfl SH.out.2 ?_)
  with_reducible refine EH.mono ?_
  rintro e w5 ⟨v5, rfl, c5, p5, s5, o5⟩
  obtain ⟨va5, vc5, rfl, _⟩ := p5.form
  have t5 := X4.out.2.trans s5
  have EC := encodeC_ok o5 b.cm X0.out.2.1.hash (X0.out.2.1.votes.kn t5) HP.out.1.2.2 0
  have hC : CellsAt w5 xb 131 (cmC b.cm vc) ∧ (Tryz.prog.info? 56).map (·.size) = some (cmC b.cm vc).length := ⟨by have := HP.out.2.2.2.2.2.1.kn t5 X0.out.1.lt; rwa [Nat.zero_add] at this, by rw [info_cmt, HP.out.2.2.2.1]⟩
  obtain ⟨BC, hBC⟩ : ∃ X, cmC b.cm vc = X := ⟨_, rfl⟩
  rw [hBC] at EC hC
  have SC := Lib.hid hC
  have X5 := Lib.hid (And.intro (X4.out.1.kn s5) (And.intro p5 t5))
  obtain ⟨lH, hlH⟩ : ∃ n, (encH b.h).length = n := ⟨_, rfl⟩
  have HlH := Lib.hid hlH
  rw [hlH]
  clear EH SH X4 p5 s5 o5 hC hBC t5 hlH
  go_wp2_with (refine wpList_load_mid rfl 56 _ rfl xb 131 rfl BC _ SC.out.1 Tryz.underlying56 rfl SC.out.2 ?_)
  with_reducible refine EC.mono ?_
  rintro e w6 ⟨v6, rfl, c6, p6, s6, o6⟩
  obtain ⟨va6, vc6, rfl, _⟩ := p6.form
  have t6 := X5.out.2.2.trans s6
  have EV := encodeV_ok o6 (X0.out.2.1.vals.kn t6) HP.out.1.2.1 0
  have y6 : w6.cell? ⟨xb, 165, none⟩ = some vv := by have := (t6.cell X0.out.1.lt (fun h => h)).trans HP.out.2.2.2.2.2.2; rwa [Nat.zero_add] at this
  have X6 := Lib.hid (And.intro (X5.out.1.kn s6) (And.intro (X5.out.2.1.kn s6) (And.intro p6 t6)))
  obtain ⟨lC, hlC⟩ : ∃ n, (encC b.cm).length = n := ⟨_, rfl⟩
  have HlC := Lib.hid hlC
  rw [hlC]
  clear EC SC X5 p6 s6 o6 t6 hlC
  go_wp2_with fail
  with_reducible refine EV.mono ?_
  rintro e w7 ⟨v7, rfl, c7, p7, s7, o7⟩
  obtain ⟨va7, vc7, rfl, _⟩ := p7.form
  have X7 := Lib.hid (And.intro (X6.out.1.kn s7) (And.intro (X6.out.2.1.kn s7) (And.intro (X6.out.2.2.1.kn s7) (And.intro p7 (And.intro (X6.out.2.2.2.trans s7) o7)))))
  obtain ⟨lV, hlV⟩ : ∃ n, (encV b.vals).length = n := ⟨_, rfl⟩
  have HlV := Lib.hid hlV
  rw [hlV]
  clear EV X6 p7 s7 o7 hlV y6
  go_wp2_with fail
  have X8 : RowKit.Hid (IsWr c7 q (q + 1) w7 p 65536 ([], 0) ∧ Sl TByte c7 0 0 w7 (.slice va5 lH vc5) (encH b.h) ∧ Sl TByte c7 0 0 w7 (.slice va6 lC vc6) (encC b.cm) ∧ Sl TByte c7 0 0 w7 (.slice va7 lV vc7) (encV b.vals) ∧ Step No c w c7 w7 ∧ Ok c7 w7) := Lib.hid (by
    obtain ⟨a1, a2, a3, a4, a5, a6⟩ := X7.out
    rw [HlH.out] at a2; rw [HlC.out] at a3; rw [HlV.out] at a4
    exact ⟨a1, a2, a3, a4, X0.out.2.2.1.trans a5, a6⟩)
  clear X7
  go_loopw [48] (fun vi wr => ∃ (i : Nat) (cr : Col), i ≤ 3 ∧ vi = .int .i64 i ∧ IsWr cr q (q + 1) wr p 65536 (((partL b).take i).flatten, 0) ∧ Sl TByte cr 0 0 wr (.slice va5 lH vc5) (encH b.h) ∧ Sl TByte cr 0 0 wr (.slice va6 lC vc6) (encC b.cm) ∧ Sl TByte cr 0 0 wr (.slice va7 lV vc7) (encV b.vals) ∧ Step (Two q (q + 1)) c w cr wr ∧ Ok cr wr) (fun vi _ => 3 - (intOf vi).toNat)
  case atStart => exact ⟨0, _, Nat.zero_le _, rfl, by simpa using X8.out.1, X8.out.2.1, X8.out.2.2.1, X8.out.2.2.2.1, X8.out.2.2.2.2.1.ofNo, X8.out.2.2.2.2.2⟩
  case round =>
    clear X8
    obtain ⟨i, cr, hi3, rfl, iw, pH, pC, pV, st, ok⟩ := hrel
    rcases (by omega : i = 0 ∨ i = 1 ∨ i = 2 ∨ i = 3) with rfl | rfl | rfl | rfl
    · -- part 0
      have hs := HP.out.2.1
      have hsum : (encB b).length = (lpB (encH b.h)).length + ((lpB (encC b.cm)).length + (lpB (encV b.vals)).length) := by simp only [encB, List.length_append]
      have hl1 : (lpB (encH b.h)).length = (numB (encH b.h).length).length + (encH b.h).length := by simp only [lpB, List.length_append]
      have hfl : ((partL b).take 0).flatten.length + (lpB (encH b.h)).length ≤ 2400 := by
        have e : ((partL b).take 1).flatten = ((partL b).take 0).flatten ++ lpB (encH b.h) := by simp [partL]
        have h2 := partL_le b 1
        rw [e, List.length_append] at h2
        omega
      have BYy := bytes_any ok iw hq0 (Nat.succ_ne_zero _) (by omega) (by omega) (by dsimp only; omega) pH (by omega)
      rw [putS_fits (by rw [List.length_append]; omega)] at BYy
      clear hs hsum hl1 hfl
      have hix := fun W => (index3 va5 va6 va7 lH vc5 lC vc6 lV vc7 W).1
      have XX := Lib.hid (And.intro pH (And.intro pC (And.intro pV st)))
      clear iw pH pC pV st ok
      go_wp2_with fail
      with_reducible refine BYy.mono ?_
      rintro e w8 ⟨rfl, c8, i8, s8, o8⟩
      obtain ⟨pH, pC, pV, st⟩ := XX.out
      have X8 := Lib.hid (And.intro i8 (And.intro (pH.keep s8 (n0 (by omega)) (n0 (by omega))) (And.intro (pC.keep s8 (n0 (by omega)) (n0 (by omega))) (And.intro (pV.keep s8 (n0 (by omega)) (n0 (by omega))) (And.intro (st.trans s8) o8)))))
      clear BYy i8 s8 o8 pH pC pV st XX
      go_wp2_with fail
      go_roundw
      case rel =>
        have e1 : ((partL b).take 1).flatten = ((partL b).take 0).flatten ++ (numB (encH b.h).length ++ encH b.h) := by simp [partL, lpB]
        exact ⟨1, c8, by omega, by first | rfl | go_num, by rw [e1]; exact X8.out.1, X8.out.2⟩
      case measure => simp [intOf]
    · -- part 1
      have hs := HP.out.2.1
      have hsum : (encB b).length = (lpB (encH b.h)).length + ((lpB (encC b.cm)).length + (lpB (encV b.vals)).length) := by simp only [encB, List.length_append]
      have hl1 : (lpB (encC b.cm)).length = (numB (encC b.cm).length).length + (encC b.cm).length := by simp only [lpB, List.length_append]
      have hfl : ((partL b).take 1).flatten.length + (lpB (encC b.cm)).length ≤ 2400 := by
        have e : ((partL b).take 2).flatten = ((partL b).take 1).flatten ++ lpB (encC b.cm) := by simp [partL]
        have h2 := partL_le b 2
        rw [e, List.length_append] at h2
        omega
      have BYy := bytes_any ok iw hq0 (Nat.succ_ne_zero _) (by omega) (by omega) (by dsimp only; omega) pC (by omega)
      rw [putS_fits (by rw [List.length_append]; omega)] at BYy
      clear hs hsum hl1 hfl
      have hix := fun W => (index3 va5 va6 va7 lH vc5 lC vc6 lV vc7 W).2.1
      have XX := Lib.hid (And.intro pH (And.intro pC (And.intro pV st)))
      clear iw pH pC pV st ok
      go_wp2_with fail
      with_reducible refine BYy.mono ?_
      rintro e w8 ⟨rfl, c8, i8, s8, o8⟩
      obtain ⟨pH, pC, pV, st⟩ := XX.out
      have X8 := Lib.hid (And.intro i8 (And.intro (pH.keep s8 (n0 (by omega)) (n0 (by omega))) (And.intro (pC.keep s8 (n0 (by omega)) (n0 (by omega))) (And.intro (pV.keep s8 (n0 (by omega)) (n0 (by omega))) (And.intro (st.trans s8) o8)))))
      clear BYy i8 s8 o8 pH pC pV st XX
      go_wp2_with fail
      go_roundw
      case rel =>
        have e1 : ((partL b).take 2).flatten = ((partL b).take 1).flatten ++ (numB (encC b.cm).length ++ encC b.cm) := by simp [partL, lpB]
        exact ⟨2, c8, by omega, by first | rfl | go_num, by rw [e1]; exact X8.out.1, X8.out.2⟩
      case measure => simp [intOf]
    · -- part 2
      have hs := HP.out.2.1
      have hsum : (encB b).length = (lpB (encH b.h)).length + ((lpB (encC b.cm)).length + (lpB (encV b.vals)).length) := by simp only [encB, List.length_append]
      have hl1 : (lpB (encV b.vals)).length = (numB (encV b.vals).length).length + (encV b.vals).length := by simp only [lpB, List.length_append]
      have hfl : ((partL b).take 2).flatten.length + (lpB (encV b.vals)).length ≤ 2400 := by
        have e : ((partL b).take 3).flatten = ((partL b).take 2).flatten ++ lpB (encV b.vals) := by simp [partL]
        have h2 := partL_le b 3
        rw [e, List.length_append] at h2
        omega
      have BYy := bytes_any ok iw hq0 (Nat.succ_ne_zero _) (by omega) (by omega) (by dsimp only; omega) pV (by omega)
      rw [putS_fits (by rw [List.length_append]; omega)] at BYy
      clear hs hsum hl1 hfl
      have hix := fun W => (index3 va5 va6 va7 lH vc5 lC vc6 lV vc7 W).2.2
      have XX := Lib.hid (And.intro pH (And.intro pC (And.intro pV st)))
      clear iw pH pC pV st ok
      go_wp2_with fail
      with_reducible refine BYy.mono ?_
      rintro e w8 ⟨rfl, c8, i8, s8, o8⟩
      obtain ⟨pH, pC, pV, st⟩ := XX.out
      have X8 := Lib.hid (And.intro i8 (And.intro (pH.keep s8 (n0 (by omega)) (n0 (by omega))) (And.intro (pC.keep s8 (n0 (by omega)) (n0 (by omega))) (And.intro (pV.keep s8 (n0 (by omega)) (n0 (by omega))) (And.intro (st.trans s8) o8)))))
      clear BYy i8 s8 o8 pH pC pV st XX
      go_wp2_with fail
      go_roundw
      case rel =>
        have e1 : ((partL b).take 3).flatten = ((partL b).take 2).flatten ++ (numB (encV b.vals).length ++ encV b.vals) := by simp [partL, lpB]
        exact ⟨3, c8, by omega, by first | rfl | go_num, by rw [e1]; exact X8.out.1, X8.out.2⟩
      case measure => simp [intOf]
    · rw [partL_all] at iw
      have D := done_any ok iw rfl (by have := HP.out.2.1; dsimp only; omega) ky
      have X3 := Lib.hid (st.drop (K' := No) fun b _ e => by have := hqc b; rcases e with e | e <;> omega)
      clear iw pH pC pV st ok
      go_wp2_with fail
      with_reducible refine D.mono ?_
      rintro e1 w8 ⟨v', rfl, c8, p8, s8, o8⟩
      have X8 := Lib.hid (And.intro p8 (And.intro (X3.out.trans s8) o8))
      clear D p8 s8 o8
      go_wp2_with fail
      go_ret2
      exact ⟨v', rfl, c8, X8.out⟩
end
end Go.Proofs.YtgcobbapaaihiaaGreat

set_option linter.unusedVariables false
set_option linter.unusedSimpArgs false
namespace Go.Proofs.YtgcobbapaaihiaaGreat
open Go.RowKit

/-- An answer's cells, its bytes; what is wrong with it. -/
def ansC (id : Int) (B : List Value) : List Value := .int .i64 id :: B
def encN (id : Int) (b : Blo) : List UInt8 := numB 2 ++ (numB id.toNat ++ lpB (encB b))
def ansE (id : Int) (b : Blo) : Int := if idB id = true then checkB b else 3

theorem ansE_ok {id : Int} {b : Blo} (h : ansE id b = 0) : idB id = true ∧ checkB b = 0 := by
  unfold ansE at h
  by_cases hi : idB id = true
  · rw [if_pos hi] at h; exact ⟨hi, h⟩
  · rw [if_neg hi] at h; cases h

theorem ansC_one {id : Int} {B : List Value} (h : ∀ v ∈ B, v.oneCell' = true) : ∀ v ∈ ansC id B, v.oneCell' = true := by
  intro v hv
  rcases List.mem_cons.1 hv with rfl | hv
  · rfl
  · exact h v hv
theorem ans_at {w : World} {bx : Nat} {id : Int} {B : List Value} (h : CellsAt w bx 0 (ansC id B)) : w.cell? ⟨bx, 0, none⟩ = some (.int .i64 id) ∧ CellsAt w bx 1 B := by
  have h0 : CellsAt w bx 0 ([.int .i64 id] ++ B) := h
  exact ⟨h 0 _ rfl, (cells_app h0).2⟩

section
variable {c : Col} {w : World}

set_option maxRecDepth 100000 in
set_option maxHeartbeats 1600000 in
theorem ansWrite_any (hok : Ok c w) {kw kb p : Nat} (hi : IsWr c kw kb w p 65536 ([], 0)) (hk0 : kw ≠ 0) (hb0 : kb ≠ 0) (hkb : kb ≠ kw) (id : Int) {b : Blo} {k : Nat} {vc vv : Value} (hb : b.At c k w vc vv) (hkw : ¬ Two kw kb k) :
    Calls Tryz.prog 242 #[.agg (ansC id (bloC b vc vv)).toArray, .pointer (some ⟨p, 0, none⟩)] w fun r w' => r = .returned (.int .i64 (ansE id b)) ∧
      ∃ c', IsWr c' kw kb w' p 65536 (if ansE id b = 0 then encN id b else [], 0) ∧ Step (Two kw kb) c w c' w' ∧ Ok c' w' := by
  have a0 := At.new0 hok (ansC id (bloC b vc vv)) 206
  have o0 := hok.alloc (.cells (ansC id (bloC b vc vv)).toArray 206)
  have s0 : Step No c w c (w.alloc (.cells (ansC id (bloC b vc vv)).toArray 206)) := Step.refl.alloc _
  obtain ⟨xb, hxb⟩ : ∃ b, w.heap.size = b := ⟨_, rfl⟩
  rw [hxb] at a0
  have hl := bloC_len hb.h hb.hash vc vv
  obtain ⟨y0, yB⟩ := ans_at a0.cells
  obtain ⟨X, hX⟩ : ∃ X, ansC id (bloC b vc vv) = X := ⟨_, rfl⟩
  rw [hX] at a0 o0 s0 y0 yB ⊢
  obtain ⟨W0, hW0⟩ : ∃ W, w.alloc (.cells X.toArray 206) = W := ⟨_, rfl⟩
  rw [hW0] at a0 o0 s0 y0 yB
  have N1 := mnumber_any id W0
  have n0 : ¬ Two kw kb 0 := fun h => by rcases h with h | h <;> omega
  by_cases hid : idB id = true
  · rw [hid] at N1
    by_cases hc : checkB b = 0
    · have hE : ansE id b = 0 := by unfold ansE; rw [if_pos hid, hc]
      rw [hE, if_pos rfl]
      have EB := encodeB_ok o0 (hb.kn s0) hc 0
      have hlen := encB_len hb hc
      simp only [idB, Bool.and_eq_true, decide_eq_true_eq] at hid
      have e1 : ((id.toNat : Nat) : Int) = id := Int.toNat_of_nonneg (by omega)
      obtain ⟨B, hB⟩ : ∃ B, bloC b vc vv = B := ⟨_, rfl⟩
      rw [hB] at yB EB hl
      have SL := Lib.hid (And.intro yB (show (Tryz.prog.info? 59).map (·.size) = some B.length by rw [info_blo, hl]))
      have HL := Lib.hid (And.intro hlen (And.intro hid e1))
      have X0 := Lib.hid (And.intro (hi.kn s0) (And.intro a0 s0))
      clear a0 o0 s0 hb hok hl hB hc hE hlen hid e1 yB hX hi
      go_enter Tryz.func242, Tryz.ntmps242
      go_wp2_with fail
      (try rw [hW0])
      with_reducible refine N1.mono ?_
      rintro e w1 ⟨rfl, rfl⟩
      clear N1
      go_wp2_with (refine wpList_load_mid rfl 59 _ rfl xb 1 rfl B _ SL.out.1 Tryz.underlying59 rfl SL.out.2 ?_)
      with_reducible refine EB.mono ?_
      rintro e w2 ⟨v2, rfl, c2, p2, s2, o2⟩
      obtain ⟨va, vd, rfl, _⟩ := p2.form
      have NT := num_any o2 (X0.out.1.kn s2) hk0 hb0 hkb (by omega) (by simp) 2 (by omega)
      rw [putS_fits (by have := numB_len 2; simp; omega), List.nil_append] at NT
      have z0 : w2.cell? ⟨xb, 0, none⟩ = some (.int .i64 id) := (s2.cell X0.out.2.1.lt (fun h => h)).trans y0
      obtain ⟨lB, hlB⟩ : ∃ n, (encB b).length = n := ⟨_, rfl⟩
      have HlB := Lib.hid hlB
      have X2 := Lib.hid (And.intro p2 (And.intro (X0.out.2.1.keep s2 (fun h => h)) (X0.out.2.2.trans s2)))
      rw [hlB]
      clear EB p2 s2 o2 hlB SL y0
      go_wp2_with fail
      refine NT.mono ?_
      rintro e w3 ⟨rfl, c3, i3, s3, o3⟩
      have NI := num_any o3 i3 hk0 hb0 hkb (by omega) (by have := numB_len 2; dsimp only; omega) id.toNat (by have := HL.out.2.1; omega)
      rw [putS_fits (by have := numB_len 2; have := numB_len id.toNat; omega), HL.out.2.2] at NI
      have z3 : w3.cell? ⟨xb, 0, none⟩ = some (.int .i64 id) := (s3.cell X2.out.2.1.lt (by rw [X2.out.2.1.col]; exact n0)).trans z0
      have X3 := Lib.hid (And.intro (X2.out.1.keep s3 n0 n0) (X2.out.2.2.ofNo.trans s3))
      clear NT i3 s3 o3 z0 X2
      go_wp2_with fail
      with_reducible refine NI.mono ?_
      rintro e w4 ⟨rfl, c4, i4, s4, o4⟩
      have BY := bytes_any o4 i4 hk0 hb0 hkb (by omega) (by have := numB_len 2; have := numB_len id.toNat; simp only [List.length_append]; omega) (X3.out.1.keep s4 n0 n0) (by have := HL.out.1; omega)
      rw [putS_fits (by have := numB_len 2; have := numB_len id.toNat; have := HL.out.1; have := numB_len (encB b).length; simp only [List.length_append]; omega), HlB.out] at BY
      have X4 := Lib.hid (X3.out.2.trans s4)
      clear NI i4 s4 o4 z3 X3
      go_wp2_with fail
      with_reducible refine BY.mono ?_
      rintro e w5 ⟨rfl, c5, i5, s5, o5⟩
      have X5 := Lib.hid (And.intro i5 (And.intro (X4.out.trans s5) o5))
      clear BY i5 s5 o5
      go_wp2_with fail
      go_ret
      obtain ⟨i5, s5, o5⟩ := X5.out
      refine ⟨rfl, c5, ?_, s5, o5⟩
      rw [show encN id b = numB 2 ++ numB id.toNat ++ (numB lB ++ encB b) by rw [encN, lpB, HlB.out]; simp]
      exact i5
    · have hE : ansE id b = checkB b := by unfold ansE; rw [if_pos hid]
      rw [hE, if_neg hc]
      have EB := encodeB_bad o0 (hb.kn s0) hc
      obtain ⟨e0, he⟩ : ∃ e, checkB b = e := ⟨_, rfl⟩
      rw [he] at EB hc ⊢
      have hc2 : (e0 != 0) = true := by rw [bne_iff_ne]; exact hc
      obtain ⟨B, hB⟩ : ∃ B, bloC b vc vv = B := ⟨_, rfl⟩
      rw [hB] at yB EB hl
      have SL := Lib.hid (And.intro yB (show (Tryz.prog.info? 59).map (·.size) = some B.length by rw [info_blo, hl]))
      have X0 := Lib.hid (And.intro (hi.kn s0) s0)
      clear a0 o0 s0 hb hok hl hB hE yB hX hi he hc
      go_enter Tryz.func242, Tryz.ntmps242
      go_wp2_with fail
      (try rw [hW0])
      with_reducible refine N1.mono ?_
      rintro e w1 ⟨rfl, rfl⟩
      clear N1
      go_wp2_with (refine wpList_load_mid rfl 59 _ rfl xb 1 rfl B _ SL.out.1 Tryz.underlying59 rfl SL.out.2 ?_)
      with_reducible refine EB.mono ?_
      rintro e w2 ⟨rfl, c2, s2, o2⟩
      have X2 := Lib.hid (And.intro (X0.out.1.kn s2) (And.intro ((X0.out.2.trans s2).ofNo (K := Two kw kb)) o2))
      clear EB s2 o2
      go_wp2_with fail
      go_ret
      exact ⟨rfl, c2, X2.out⟩
  · have hE : ansE id b = 3 := by unfold ansE; rw [if_neg hid]
    rw [hE, if_neg (by decide)]
    have hid' : idB id = false := by simpa using hid
    rw [hid'] at N1
    have X0 := Lib.hid (And.intro (hi.kn s0) (And.intro (s0.ofNo (K := Two kw kb)) o0))
    clear a0 o0 s0 hb hok hl hE yB hX hi hid hid'
    go_enter Tryz.func242, Tryz.ntmps242
    go_wp2_with fail
    (try rw [hW0])
    with_reducible refine N1.mono ?_
    rintro e w1 ⟨rfl, rfl⟩
    clear N1
    go_wp2_with fail
    go_ret
    exact ⟨rfl, c, X0.out⟩
end
end Go.Proofs.YtgcobbapaaihiaaGreat
