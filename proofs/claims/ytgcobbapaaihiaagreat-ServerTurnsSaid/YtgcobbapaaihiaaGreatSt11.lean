/- ServerTurns, part 11: lemmas, each with its own conditions. -/
import Derived.Test.YtgcobbapaaihiaaGreatSt05
import Derived.Test.YtgcobbapaaihiaaGreatSt06
import Derived.Test.YtgcobbapaaihiaaGreatSt07
import Derived.Test.YtgcobbapaaihiaaGreatSt10
set_option linter.unusedVariables false
set_option linter.unusedSimpArgs false
namespace Go.Proofs.YtgcobbapaaihiaaGreat
open Go.RowKit

def cB (v : Vot) : List UInt8 := numB v.at_.toNat ++ wordB v.sig
theorem cB_len : ∀ l : List Vot, (l.map cB).flatten.length ≤ 17 * l.length
  | [] => by simp
  | x :: l => by
    have h1 := cB_len l
    have h3 := numB_len x.at_.toNat
    simp only [List.map_cons, List.flatten_cons, List.length_append, List.length_cons, cB, wordB, wordL_len]
    omega

theorem Sl.vot {c : Col} {k k2 : Nat} {w : World} {v : Value} {l : List Vot} (h : Sl TVot c k k2 w v l) : ∀ x ∈ l, IntKind.i64.has x.at_ ∧ x.sig < 18446744073709551616 := by
  intro x hx
  obtain ⟨i, hi⟩ := List.mem_iff_getElem?.1 hx
  rcases h with ⟨rfl, _⟩ | ⟨_, _, _, _, _, _, _, _, h5⟩
  · simp at hi
  · obtain ⟨vs, hr, _⟩ := h5 i x hi
    exact hr.2

/-- What stands ahead of the votes. -/
def encC0 (x : Cmt) : List UInt8 := numB x.height.toNat ++ x.hash ++ numB x.votes.length
theorem encC_eq (x : Cmt) : encC0 x ++ (x.votes.map cB).flatten = encC x := by simp [encC0, encC]; rfl
theorem encC0_len {x : Cmt} (hh : x.hash.length = 32) : (encC0 x).length ≤ 50 := by
  have := numB_len x.height.toNat
  have := numB_len x.votes.length
  simp [encC0]; omega

section
variable {c : Col} {w : World}

set_option maxRecDepth 100000 in
set_option maxHeartbeats 1600000 in
theorem encodeC_bad (hok : Ok c w) (x : Cmt) (hh : x.hash.length = 32) {vv : Value} {kx k2 : Nat} (hv : Sl TVot c kx k2 w vv x.votes) (hn : x.votes.length ≤ 1000000000) (hc : checkC x ≠ 0) :
    Calls Tryz.prog 247 #[.agg (cmC x vv).toArray] w fun r w' => r = .returned (.tuple #[.slice none 0 0, .int .i64 (checkC x)]) ∧ ∃ c', Step No c w c' w' ∧ Ok c' w' := by
  have a0 := At.new0 hok (cmC x vv) 56
  have o0 := hok.alloc (.cells (cmC x vv).toArray 56)
  have s0 : Step No c w c (w.alloc (.cells (cmC x vv).toArray 56)) := Step.refl.alloc _
  have C := ccheck_any o0 x hh (hv.kn s0) hn
  have hl := cmC_len hh vv
  obtain ⟨e0, he⟩ : ∃ e, checkC x = e := ⟨_, rfl⟩
  obtain ⟨B, hB⟩ : ∃ B, cmC x vv = B := ⟨_, rfl⟩
  rw [he] at C hc ⊢
  rw [hB] at a0 o0 s0 C hl ⊢
  obtain ⟨xb, hxb⟩ : ∃ b, w.heap.size = b := ⟨_, rfl⟩
  rw [hxb] at a0
  have hi : Hid ((Tryz.prog.info? 56).map (·.size) = some B.length) := Lib.hid (by rw [info_cmt, hl])
  have HA := Lib.hid a0.cells
  have S := Lib.hid s0
  have hc2 : (e0 != 0) = true := by rw [bne_iff_ne]; exact hc
  clear a0 o0 s0 hl hok hB he hv
  go_enter Tryz.func247, Tryz.ntmps247
  go_wp2_with (refine wpList_load_mid rfl 56 _ rfl xb 0 rfl B _ HA.out Tryz.underlying56 rfl hi.out ?_)
  with_reducible refine C.mono ?_
  rintro e w1 ⟨rfl, c1, s1, o1⟩
  have X := Lib.hid (And.intro (S.out.trans s1) o1)
  clear C s1 o1
  go_wp2_with fail
  go_ret2
  exact ⟨rfl, c1, X.out⟩

set_option maxRecDepth 100000 in
set_option maxHeartbeats 1600000 in
theorem encodeC_ok (hok : Ok c w) (x : Cmt) (hh : x.hash.length = 32) {vv : Value} {kx kx2 : Nat} (hv : Sl TVot c kx kx2 w vv x.votes) (hc : checkC x = 0) (ky : Nat) :
    Calls Tryz.prog 247 #[.agg (cmC x vv).toArray] w fun r w' => ∃ v', r = .returned (.tuple #[v', .int .i64 0]) ∧ ∃ c', Sl TByte c' ky 0 w' v' (encC x) ∧ Step No c w c' w' ∧ Ok c' w' := by
  obtain ⟨q, hq, hqc⟩ := hok.top (kx + kx2)
  have hq0 : q ≠ 0 := by omega
  obtain ⟨hh1, hh2, hlen, hat⟩ := checkC_ok hc
  obtain ⟨va, vc, rfl, _⟩ := hv.form
  have a0 := At.new0 hok (cmC x (.slice va x.votes.length vc)) 56
  have o0 := hok.alloc (.cells (cmC x (.slice va x.votes.length vc)).toArray 56)
  have s0 : Step No c w c (w.alloc (.cells (cmC x (.slice va x.votes.length vc)).toArray 56)) := Step.refl.alloc _
  have C := ccheck_any o0 x hh (hv.kn s0) (by omega)
  rw [hc] at C
  have hsig := hv.vot
  have hl := cmC_len hh (.slice va x.votes.length vc)
  have hE0 := encC0_len hh
  have n0 : ∀ {x}, x < q → ¬ Two q (q + 1) x := fun hx h => by rcases h with h | h <;> omega
  obtain ⟨xb, hxb⟩ : ∃ b, w.heap.size = b := ⟨_, rfl⟩
  rw [hxb] at a0
  have Y0 : ∀ c' w', At c' w' xb 0 (cmC x (.slice va x.votes.length vc)) → _ := fun c' w' (a : At c' w' xb 0 (cmC x (.slice va x.votes.length vc))) => cmC_get hh a
  obtain ⟨B, hB⟩ : ∃ B, cmC x (.slice va x.votes.length vc) = B := ⟨_, rfl⟩
  rw [hB] at a0 o0 s0 C hl Y0 ⊢
  have hi : Hid ((Tryz.prog.info? 56).map (·.size) = some B.length) := Lib.hid (by rw [info_cmt, hl])
  have HL := Lib.hid (And.intro hlen (And.intro hat (And.intro hsig (And.intro hh (And.intro hh1 (And.intro hh2 hE0))))))
  have HY := Lib.hid Y0
  have X0 := Lib.hid (And.intro (hv.kn s0) (And.intro a0 s0))
  have e1 : ((x.height.toNat : Nat) : Int) = x.height := Int.toNat_of_nonneg (by omega)
  have HE := Lib.hid e1
  clear hv hok hc hlen hat hsig a0 o0 s0 hl hE0 Y0 hB hh1 hh2 hh e1
  go_enter Tryz.func247, Tryz.ntmps247
  go_wp2_with (refine wpList_load_mid rfl 56 _ rfl xb 0 rfl B _ X0.out.2.1.cells Tryz.underlying56 rfl hi.out ?_)
  with_reducible refine C.mono ?_
  rintro e w1 ⟨rfl, c1, s1, o1⟩
  have N := newWriter_any o1 1048576 (by omega) (by omega) q (q + 1)
  have X1 := Lib.hid (And.intro (X0.out.1.kn s1) (And.intro (X0.out.2.1.keep s1 (fun h => h)) (X0.out.2.2.trans s1)))
  clear C s1 o1 X0
  go_wp2_with fail
  with_reducible refine N.mono ?_
  rintro e w2 ⟨rfl, c2, i2, s2, o2⟩
  obtain ⟨p, hp⟩ : ∃ p, w1.heap.size = p := ⟨_, rfl⟩
  rw [hp] at i2 ⊢
  have T := num_any o2 i2 hq0 (Nat.succ_ne_zero _) (by omega) (by omega) (by simp) x.height.toNat (by have := HL.out.2.2.2.2.2.1; omega)
  rw [putS_fits (by have := numB_len x.height.toNat; simp; omega), HE.out, List.nil_append] at T
  have a2 := X1.out.2.1.keep s2 (fun h => h)
  have z0 := (HY.out _ _ a2).1
  have X2 := Lib.hid (And.intro (X1.out.1.kn s2) (And.intro a2 (X1.out.2.2.trans s2)))
  clear N i2 s2 o2 hp X1 a2
  go_wp2_with fail
  with_reducible refine T.mono ?_
  rintro e w3 ⟨rfl, c3, i3, s3, o3⟩
  have a3 := X2.out.2.1.keep s3 (n0 (by omega))
  have HH := hash_any o3 i3 hq0 (Nat.succ_ne_zero _) (by omega) (by omega) (by have := numB_len x.height.toNat; dsimp only; omega) x.hash HL.out.2.2.2.1
  rw [putS_fits (by have := numB_len x.height.toNat; have := HL.out.2.2.2.1; omega)] at HH
  have hcH := (HY.out _ _ a3).2.1
  have hHl : (bC x.hash).length = 32 := by rw [bC_len, HL.out.2.2.2.1]
  have hHi : (Tryz.prog.info? 51).map (·.size) = some (bC x.hash).length := by rw [info_hash, hHl]
  obtain ⟨V, hV⟩ : ∃ V, bC x.hash = V := ⟨_, rfl⟩
  rw [hV] at HH hcH hHi
  have X3 := Lib.hid (And.intro (X2.out.1.keep s3 (n0 (by omega)) (n0 (by omega))) (And.intro a3 (And.intro (X2.out.2.2.ofNo.trans s3) (And.intro hcH hHi))))
  clear T i3 s3 o3 X2 a3 z0 hcH hHl hHi hV
  go_wp2_with (refine wpList_load_mid rfl 51 _ rfl xb 1 rfl V _ X3.out.2.2.2.1 Tryz.underlying51 rfl X3.out.2.2.2.2 ?_)
  with_reducible refine HH.mono ?_
  rintro e w4 ⟨rfl, c4, i4, s4, o4⟩
  have a4 := X3.out.2.1.keep s4 (n0 (by omega))
  have NV := num_any o4 i4 hq0 (Nat.succ_ne_zero _) (by omega) (by omega) (by have := numB_len x.height.toNat; have := HL.out.2.2.2.1; simp only [List.length_append]; omega) x.votes.length (by have := HL.out.1; omega)
  rw [putS_fits (by have := numB_len x.height.toNat; have := numB_len x.votes.length; have := HL.out.2.2.2.1; simp only [List.length_append]; omega)] at NV
  have z33 := (HY.out _ _ a4).2.2
  have X4 := Lib.hid (And.intro (X3.out.1.keep s4 (n0 (by omega)) (n0 (by omega))) (And.intro a4 (X3.out.2.2.1.trans s4)))
  clear HH i4 s4 o4 X3 a4
  go_wp2_with fail
  with_reducible refine NV.mono ?_
  rintro e w5 ⟨rfl, c5, i5, s5, o5⟩
  have a5 := X4.out.2.1.keep s5 (n0 (by omega))
  have y33 := (HY.out _ _ a5).2.2
  have X5 := Lib.hid (And.intro i5 (And.intro (X4.out.1.keep s5 (n0 (by omega)) (n0 (by omega))) (And.intro (X4.out.2.2.trans s5) o5)))
  clear NV i5 s5 o5 X4 a5 z33 HY
  obtain ⟨l, hl⟩ : ∃ l, x.votes = l := ⟨_, rfl⟩
  have HVl := Lib.hid hl
  go_wp2_with fail
  have X6 : RowKit.Hid (IsWr c5 q (q + 1) w5 p 1048576 (encC0 x, 0) ∧ Sl TVot c5 kx kx2 w5 (.slice va l.length vc) l ∧ Step (Two q (q + 1)) c w c5 w5 ∧ Ok c5 w5) := Lib.hid (by
    obtain ⟨i5, l5, s5, o5⟩ := X5.out
    rw [hl] at l5
    exact ⟨i5, l5, s5, o5⟩)
  have hll : l.length ≤ 64 := by have := HL.out.1; rw [hl] at this; exact this
  have hvl : ∀ v ∈ l, (0 ≤ v.at_ ∧ v.at_ < 64) ∧ v.sig < 18446744073709551616 := fun v hv => ⟨HL.out.2.1 v (by rw [hl]; exact hv), (HL.out.2.2.1 v (by rw [hl]; exact hv)).2⟩
  have HLL := Lib.hid (And.intro hll hvl)
  clear hl hll hvl X5 y33
  go_loopw [34] (fun vi wr => ∃ (i : Nat) (cr : Col), i ≤ l.length ∧ vi = .int .i64 i ∧ IsWr cr q (q + 1) wr p 1048576 (encC0 x ++ ((l.take i).map cB).flatten, 0) ∧ Sl TVot cr kx kx2 wr (.slice va l.length vc) l ∧ Step (Two q (q + 1)) c w cr wr ∧ Ok cr wr) (fun vi _ => l.length - (intOf vi).toNat)
  case atStart => exact ⟨0, _, Nat.zero_le _, rfl, by simpa using X6.out.1, X6.out.2⟩
  case round =>
    clear X6
    obtain ⟨i, cr, hi, rfl, iw, sl, st, ok⟩ := hrel
    by_cases hlt : i < l.length
    · obtain ⟨u, hu⟩ : ∃ u, l[i]? = some u := ⟨l[i], by simp [hlt]⟩
      obtain ⟨g, off, cap, e, hcap, hcm⟩ := sl.some (by omega)
      injection e with e1 _ e2
      subst e1 e2
      obtain ⟨vs, ⟨rfl, hat, hsg⟩, hcs⟩ := sl.at hu
      have y0 := hcs.get 0 rfl
      have y1 := hcs.get 1 rfl
      simp only [TVot, Nat.add_zero] at y0 y1
      have hp1 := HLL.out.2 u (List.mem_of_getElem? hu)
      have hlen17 : ((l.take i).map cB).flatten.length ≤ 1088 := by
        have := cB_len (l.take i)
        have h2 : (l.take i).length ≤ 64 := by rw [List.length_take]; have := HLL.out.1; omega
        omega
      have hE0 := HL.out.2.2.2.2.2.2
      have s2 : Step No cr wr cr (wr.alloc (.cells #[.int .i64 u.at_, .int .u64 u.sig] 106)) := Step.refl.alloc _
      have a2 := At.new0 ok [.int .i64 u.at_, .int .u64 u.sig] 106
      have NM := num_any (ok.alloc (.cells #[.int .i64 u.at_, .int .u64 u.sig] 106)) (iw.kn s2) hq0 (Nat.succ_ne_zero _) (by omega) (by omega) (by simp only [List.length_append]; omega) u.at_.toNat (by omega)
      rw [putS_fits (by have := numB_len u.at_.toNat; simp only [List.length_append]; omega), Int.toNat_of_nonneg (by omega)] at NM
      have X2 := Lib.hid (And.intro (sl.kn s2) (And.intro (st.trans s2.ofNo) (And.intro a2 (And.intro hp1 (And.intro hlen17 hu)))))
      have hlt' : (i : Int) < (l.length : Int) := by omega
      have hi64 : (i : Int) < 64 := by have := HLL.out.1; omega
      obtain ⟨bx, hbx⟩ : ∃ b, wr.heap.size = b := ⟨_, rfl⟩
      rw [hbx] at X2
      clear hcs s2 a2 iw sl st ok hp1 hlen17 hE0 hat hsg
      go_wp2_with fail
      (try rw [hbx])
      with_reducible refine NM.mono ?_
      rintro e1 w7 ⟨rfl, c7, i7, s7, o7⟩
      have a7 := X2.out.2.2.1.keep s7 (n0 (by omega))
      have y7 := a7.get (i := 1) rfl
      have WD := wword_any o7 i7 hq0 (Nat.succ_ne_zero _) (by omega) (by omega) (by have := HL.out.2.2.2.2.2.2; have := X2.out.2.2.2.2.1; have := numB_len u.at_.toNat; simp only [List.length_append]; omega) u.sig X2.out.2.2.2.1.2
      rw [putS_fits (by have := HL.out.2.2.2.2.2.2; have := X2.out.2.2.2.2.1; have := numB_len u.at_.toNat; simp only [List.length_append, wordB, wordL_len]; omega)] at WD
      have X7 := Lib.hid (And.intro (X2.out.1.keep s7 (n0 (by omega)) (n0 (by omega))) (X2.out.2.1.trans s7))
      clear NM i7 s7 o7 a7
      go_wp2_with fail
      with_reducible refine WD.mono ?_
      rintro e1 w8 ⟨rfl, c8, i8, s8, o8⟩
      have X8 := Lib.hid (And.intro i8 (And.intro (X7.out.1.keep s8 (n0 (by omega)) (n0 (by omega))) (And.intro (X7.out.2.trans s8) o8)))
      clear WD i8 s8 o8 y7
      go_wp2_with fail
      go_roundw
      case rel =>
        refine ⟨i + 1, c8, by omega, by go_num, ?_, X8.out.2⟩
        have e1 : encC0 x ++ ((l.take (i + 1)).map cB).flatten = encC0 x ++ ((l.take i).map cB).flatten ++ numB u.at_.toNat ++ wordB u.sig := by
          rw [List.take_add_one, X2.out.2.2.2.2.2]; simp [cB]
        rw [e1]; exact X8.out.1
      case measure => simp [intOf]; omega
    · have hil : i = l.length := by omega
      subst hil
      rw [List.take_length] at iw
      have hE : encC0 x ++ (l.map cB).flatten = encC x := by rw [← encC_eq, HVl.out]
      rw [hE] at iw
      have hle : (encC x).length ≤ 1000000000 := by
        have := cB_len l
        have := HLL.out.1
        have := HL.out.2.2.2.2.2.2
        rw [← hE, List.length_append]; omega
      have D := done_any ok iw rfl hle ky
      have X3 := Lib.hid ((st.drop (K' := No) fun b _ e => by have := hqc b; rcases e with e | e <;> omega))
      clear iw sl st ok
      go_wp2_with fail
      with_reducible refine D.mono ?_
      rintro e1 w8 ⟨v', rfl, c8, p8, s8, o8⟩
      have X8 := Lib.hid (And.intro p8 (And.intro (X3.out.trans s8) o8))
      clear D p8 s8 o8
      go_wp2_with fail
      go_ret2
      exact ⟨v', rfl, c8, X8.out⟩
end
end Go.Proofs.YtgcobbapaaihiaaGreat

set_option linter.unusedVariables false
set_option linter.unusedSimpArgs false
namespace Go.Proofs.YtgcobbapaaihiaaGreat
open Go.RowKit
theorem ptrI : (Tryz.prog.info? 212).map (·.size) = some 1 := by kernel_rfl
theorem index4 (a b c d : Addr) (W : World) :
    (Instr.index 213 (.agg #[.pointer (some a), .pointer (some b), .pointer (some c), .pointer (some d)]) (.int .i64 0)).run Tryz.prog W = .ok (.pointer (some a)) W ∧
    (Instr.index 213 (.agg #[.pointer (some a), .pointer (some b), .pointer (some c), .pointer (some d)]) (.int .i64 1)).run Tryz.prog W = .ok (.pointer (some b)) W ∧
    (Instr.index 213 (.agg #[.pointer (some a), .pointer (some b), .pointer (some c), .pointer (some d)]) (.int .i64 2)).run Tryz.prog W = .ok (.pointer (some c)) W ∧
    (Instr.index 213 (.agg #[.pointer (some a), .pointer (some b), .pointer (some c), .pointer (some d)]) (.int .i64 3)).run Tryz.prog W = .ok (.pointer (some d)) W := by
  have hs : (sizeOf 212).run Tryz.prog W = .ok 1 W := by
    cases hq : Tryz.prog.info? 212 with
    | none => have := ptrI; rw [hq] at this; cases this
    | some i =>
      have : i.size = 1 := by have := ptrI; rw [hq] at this; simpa using this
      simp [sizeOf, typeInfo, hq, this]
  have hu := run_underlying Tryz.underlying213 W
  have hu2 := run_underlying Tryz.underlying212 W
  refine ⟨?_, ?_, ?_, ?_⟩ <;> simp [Instr.index, asIntOf, hu, hu2, part, isAgg, hs, Value.cells]
end Go.Proofs.YtgcobbapaaihiaaGreat

set_option linter.unusedVariables false
set_option linter.unusedSimpArgs false
namespace Go.Proofs.YtgcobbapaaihiaaGreat
open Go.RowKit

section
variable {c : Col} {w : World}

set_option maxRecDepth 100000 in
set_option maxHeartbeats 3200000 in
theorem encodeH_ok (hok : Ok c w) (h : Hdr) (hw : h.Wf) (hc : checkH h = 0) (kx : Nat) :
    Calls Tryz.prog 194 #[.agg (hdrC h).toArray] w fun r w' => ∃ v, r = .returned (.tuple #[v, .int .i64 0]) ∧ ∃ c', Sl TByte c' kx 0 w' v (encH h) ∧ Step No c w c' w' ∧ Ok c' w' := by
  obtain ⟨k1, hk1, hk1c⟩ := hok.spare 0
  obtain ⟨k2, hk2, hk2c⟩ := hok.spare k1
  have k10 : k1 ≠ 0 := by omega
  have k20 : k2 ≠ 0 := by omega
  have k21 : k2 ≠ k1 := by omega
  have n0 : ¬ Two k1 k2 0 := fun h => by rcases h with h | h <;> omega
  have a0 := At.new0 hok (hdrC h) 53
  have o0 := hok.alloc (.cells (hdrC h).toArray 53)
  have s0 : Step No c w c (w.alloc (.cells (hdrC h).toArray 53)) := Step.refl.alloc _
  have C := check_any o0 h hw
  rw [hc] at C
  obtain ⟨hn, hh, ht⟩ := checkH_ok hc
  simp only [heightB, timeB, Bool.and_eq_true, decide_eq_true_eq] at hh ht
  have hnl : h.name.length ≤ 32 := by simp only [nameB, Bool.and_eq_true, decide_eq_true_eq] at hn; exact hn.1.2
  have hl := hdrC_len hw
  have hE0 := encH0_len hc
  obtain ⟨b1, hb1⟩ : ∃ b, w.heap.size = b := ⟨_, rfl⟩
  rw [hb1] at a0
  have HD : ∀ {c' w'}, At c' w' b1 0 (hdrC h) → _ := fun {c'} {w'} (a : At c' w' b1 0 (hdrC h)) => hdr_at hw a.cells
  have Y0 : ∀ {c' w'}, At c' w' b1 0 (hdrC h) → w'.cell? ⟨b1, 0, none⟩ = some (.string ⟨h.name.toArray⟩) ∧ w'.cell? ⟨b1, 1, none⟩ = some (.int .i64 h.height) ∧ w'.cell? ⟨b1, 2, none⟩ = some (.int .i64 h.time) := fun a => ⟨a.get (i := 0) rfl, a.get (i := 1) rfl, a.get (i := 2) rfl⟩
  obtain ⟨B, hB⟩ : ∃ B, hdrC h = B := ⟨_, rfl⟩
  rw [hB] at a0 o0 s0 C hl HD Y0 ⊢
  have hi : Hid ((Tryz.prog.info? 53).map (·.size) = some B.length) := Lib.hid (by rw [info_hdr, hl])
  have HA := Lib.hid (And.intro a0 (And.intro s0 (And.intro @HD (And.intro @Y0 (And.intro hk1c hk2c)))))
  have HK := Lib.hid (And.intro hw (And.intro hnl (And.intro hh (And.intro ht hE0))))
  have e1 : ((h.height.toNat : Nat) : Int) = h.height := Int.toNat_of_nonneg (by omega)
  have e2 : ((h.time.toNat : Nat) : Int) = h.time := Int.toNat_of_nonneg (by omega)
  have HE := Lib.hid (And.intro e1 e2)
  clear a0 o0 s0 hl hok hB hc hn hh ht hnl hE0 HD Y0 hk1c hk2c e1 e2 hw
  go_enter Tryz.func194, Tryz.ntmps194
  go_wp2_with (refine wpList_load_mid rfl 53 _ rfl b1 0 rfl B _ HA.out.1.cells Tryz.underlying53 rfl hi.out ?_)
  with_reducible refine C.mono ?_
  rintro e w1 ⟨rfl, c1, s1, o1⟩
  have N := newWriter_any o1 65536 (by omega) (by omega) k1 k2
  have X1 := Lib.hid (And.intro s1 o1)
  clear C s1 o1
  go_wp2_with fail
  with_reducible refine N.mono ?_
  rintro e w2 ⟨rfl, c2, i2, s2, o2⟩
  obtain ⟨p, hp⟩ : ∃ p, w1.heap.size = p := ⟨_, rfl⟩
  rw [hp] at i2 ⊢
  have A2 := (HA.out.1.keep X1.out.1 (fun h => h)).keep s2 (fun h => h)
  have S2 : Step (Two k1 k2) c w c2 w2 := ((HA.out.2.1.trans X1.out.1).trans s2).ofNo
  have T := text_any o2 i2 k10 k20 k21 (by omega) (by simp) h.name (by have := HK.out.2.1; omega)
  rw [putS_fits (by have := numB_len h.name.length; have := HK.out.2.1; simp; omega)] at T
  have z0 := (HA.out.2.2.2.1 A2).1
  have X2 := Lib.hid (And.intro A2 S2)
  clear N i2 s2 o2 A2 S2 hp
  go_wp2_with fail
  with_reducible refine T.mono ?_
  rintro e w3 ⟨rfl, c3, i3, s3, o3⟩
  have A3 := X2.out.1.keep s3 n0
  have S3 := X2.out.2.trans s3
  have T2 := num_any o3 i3 k10 k20 k21 (by omega) (by have := numB_len h.name.length; have := HK.out.2.1; simp; omega) h.height.toNat (by have := HK.out.2.2.1; omega)
  rw [putS_fits (by have := numB_len h.name.length; have := numB_len h.height.toNat; have := HK.out.2.1; simp; omega), HE.out.1] at T2
  have z1 := (HA.out.2.2.2.1 A3).2.1
  have X3 := Lib.hid (And.intro A3 S3)
  clear T i3 s3 o3 A3 S3 z0
  go_wp2_with fail
  with_reducible refine T2.mono ?_
  rintro e w4 ⟨rfl, c4, i4, s4, o4⟩
  have A4 := X3.out.1.keep s4 n0
  have S4 := X3.out.2.trans s4
  have T3 := num_any o4 i4 k10 k20 k21 (by omega) (by have := numB_len h.name.length; have := numB_len h.height.toNat; have := HK.out.2.1; simp; omega) h.time.toNat (by have := HK.out.2.2.2.1; omega)
  rw [putS_fits (by have := numB_len h.name.length; have := numB_len h.height.toNat; have := numB_len h.time.toNat; have := HK.out.2.1; simp; omega), HE.out.2] at T3
  have z2 := (HA.out.2.2.2.1 A4).2.2
  have X4 := Lib.hid (And.intro A4 S4)
  clear T2 i4 s4 o4 A4 S4 z1
  go_wp2_with fail
  with_reducible refine T3.mono ?_
  rintro e w5 ⟨rfl, c5, i5, s5, o5⟩
  have HS := hashes_any o5 b1
  have X5 := Lib.hid (And.intro i5 (And.intro (X4.out.1.keep s5 n0) (And.intro (X4.out.2.trans s5) o5)))
  clear T3 i5 s5 o5 z2
  go_wp2_with fail
  with_reducible refine HS.mono ?_
  rintro e w6 ⟨rfl, c6, s6, o6⟩
  have X6 := Lib.hid (And.intro (X5.out.1.kn s6) (And.intro (X5.out.2.1.keep s6 (fun h => h)) (And.intro (X5.out.2.2.1.trans s6.ofNo) o6)))
  clear HS s6 o6
  go_wp2_with fail
  go_loopw [31] (fun vi wr => ∃ (i : Nat) (cr : Col), i ≤ 4 ∧ vi = .int .i64 i ∧ IsWr cr k1 k2 wr p 65536 (encH0 h ++ ((hashL h).take i).flatten, 0) ∧ At cr wr b1 0 B ∧ Step (Two k1 k2) c w cr wr ∧ Ok cr wr) (fun vi _ => 4 - (intOf vi).toNat)
  case atStart => exact ⟨0, c6, by omega, rfl, by simpa [encH0] using X6.out.1, X6.out.2.1, X6.out.2.2.1, X6.out.2.2.2⟩
  case round =>
    obtain ⟨i, cr, hi4, rfl, iw, ah, st, ok⟩ := hrel
    have D := HA.out.2.2.1 ah
    have hlen : ((encH0 h ++ ((hashL h).take i).flatten).length : Int) + 32 ≤ 65536 := by
      have w1 := HK.out.1
      have : ((hashL h).take i).flatten.length ≤ 128 := by
        have e := flat_le (hashL h) i
        simp only [hashL, List.flatten_cons, List.flatten_nil, List.length_append, List.length_nil, w1.prev, w1.vals, w1.next, w1.app] at e
        exact e
      have := HK.out.2.2.2.2
      simp only [List.length_append]; omega
    rcases (by omega : i = 0 ∨ i = 1 ∨ i = 2 ∨ i = 3 ∨ i = 4) with rfl | rfl | rfl | rfl | rfl
    · have HH := hash_any ok iw k10 k20 k21 (by omega) (by dsimp only; omega) h.prev HK.out.1.prev
      rw [putS_fits (by rw [HK.out.1.prev]; exact hlen)] at HH
      have hbl : (bC h.prev).length = 32 := by rw [bC_len, HK.out.1.prev]
      have HC := D.1
      obtain ⟨V, hV⟩ : ∃ V, bC h.prev = V := ⟨_, rfl⟩
      rw [hV] at HH hbl HC
      have hix := fun W => (index4 ⟨b1, 3, none⟩ ⟨b1, 35, none⟩ ⟨b1, 67, none⟩ ⟨b1, 99, none⟩ W).1
      have HX := Lib.hid (And.intro ah (And.intro st (And.intro HC (show (Tryz.prog.info? 51).map (·.size) = some V.length by rw [info_hash, hbl]))))
      clear iw ah st ok D HC hbl hV hlen
      go_wp2_with (refine wpList_load_mid rfl 51 _ rfl b1 3 rfl V _ HX.out.2.2.1 Tryz.underlying51 rfl HX.out.2.2.2 ?_)
      with_reducible refine HH.mono ?_
      rintro e w7 ⟨rfl, c7, i7, s7, o7⟩
      have X7 := Lib.hid (And.intro i7 (And.intro s7 o7))
      clear HH i7 s7 o7
      go_wp2_with fail
      go_roundw
      case rel =>
        obtain ⟨i7, s7, o7⟩ := X7.out
        exact ⟨1, c7, by omega, by first | rfl | go_num, by simpa [hashL] using i7, HX.out.1.keep s7 n0, HX.out.2.1.trans s7, o7⟩
      case measure => simp [intOf]
    · have HH := hash_any ok iw k10 k20 k21 (by omega) (by dsimp only; omega) h.vals HK.out.1.vals
      rw [putS_fits (by rw [HK.out.1.vals]; exact hlen)] at HH
      have hbl : (bC h.vals).length = 32 := by rw [bC_len, HK.out.1.vals]
      have HC := D.2.1
      obtain ⟨V, hV⟩ : ∃ V, bC h.vals = V := ⟨_, rfl⟩
      rw [hV] at HH hbl HC
      have hix := fun W => (index4 ⟨b1, 3, none⟩ ⟨b1, 35, none⟩ ⟨b1, 67, none⟩ ⟨b1, 99, none⟩ W).2.1
      have HX := Lib.hid (And.intro ah (And.intro st (And.intro HC (show (Tryz.prog.info? 51).map (·.size) = some V.length by rw [info_hash, hbl]))))
      clear iw ah st ok D HC hbl hV hlen
      go_wp2_with (refine wpList_load_mid rfl 51 _ rfl b1 35 rfl V _ HX.out.2.2.1 Tryz.underlying51 rfl HX.out.2.2.2 ?_)
      with_reducible refine HH.mono ?_
      rintro e w7 ⟨rfl, c7, i7, s7, o7⟩
      have X7 := Lib.hid (And.intro i7 (And.intro s7 o7))
      clear HH i7 s7 o7
      go_wp2_with fail
      go_roundw
      case rel =>
        obtain ⟨i7, s7, o7⟩ := X7.out
        exact ⟨2, c7, by omega, by first | rfl | go_num, by simpa [hashL] using i7, HX.out.1.keep s7 n0, HX.out.2.1.trans s7, o7⟩
      case measure => simp [intOf]
    · have HH := hash_any ok iw k10 k20 k21 (by omega) (by dsimp only; omega) h.next HK.out.1.next
      rw [putS_fits (by rw [HK.out.1.next]; exact hlen)] at HH
      have hbl : (bC h.next).length = 32 := by rw [bC_len, HK.out.1.next]
      have HC := D.2.2.1
      obtain ⟨V, hV⟩ : ∃ V, bC h.next = V := ⟨_, rfl⟩
      rw [hV] at HH hbl HC
      have hix := fun W => (index4 ⟨b1, 3, none⟩ ⟨b1, 35, none⟩ ⟨b1, 67, none⟩ ⟨b1, 99, none⟩ W).2.2.1
      have HX := Lib.hid (And.intro ah (And.intro st (And.intro HC (show (Tryz.prog.info? 51).map (·.size) = some V.length by rw [info_hash, hbl]))))
      clear iw ah st ok D HC hbl hV hlen
      go_wp2_with (refine wpList_load_mid rfl 51 _ rfl b1 67 rfl V _ HX.out.2.2.1 Tryz.underlying51 rfl HX.out.2.2.2 ?_)
      with_reducible refine HH.mono ?_
      rintro e w7 ⟨rfl, c7, i7, s7, o7⟩
      have X7 := Lib.hid (And.intro i7 (And.intro s7 o7))
      clear HH i7 s7 o7
      go_wp2_with fail
      go_roundw
      case rel =>
        obtain ⟨i7, s7, o7⟩ := X7.out
        exact ⟨3, c7, by omega, by first | rfl | go_num, by simpa [hashL] using i7, HX.out.1.keep s7 n0, HX.out.2.1.trans s7, o7⟩
      case measure => simp [intOf]
    · have HH := hash_any ok iw k10 k20 k21 (by omega) (by dsimp only; omega) h.app HK.out.1.app
      rw [putS_fits (by rw [HK.out.1.app]; exact hlen)] at HH
      have hbl : (bC h.app).length = 32 := by rw [bC_len, HK.out.1.app]
      have HC := D.2.2.2
      obtain ⟨V, hV⟩ : ∃ V, bC h.app = V := ⟨_, rfl⟩
      rw [hV] at HH hbl HC
      have hix := fun W => (index4 ⟨b1, 3, none⟩ ⟨b1, 35, none⟩ ⟨b1, 67, none⟩ ⟨b1, 99, none⟩ W).2.2.2
      have HX := Lib.hid (And.intro ah (And.intro st (And.intro HC (show (Tryz.prog.info? 51).map (·.size) = some V.length by rw [info_hash, hbl]))))
      clear iw ah st ok D HC hbl hV hlen
      go_wp2_with (refine wpList_load_mid rfl 51 _ rfl b1 99 rfl V _ HX.out.2.2.1 Tryz.underlying51 rfl HX.out.2.2.2 ?_)
      with_reducible refine HH.mono ?_
      rintro e w7 ⟨rfl, c7, i7, s7, o7⟩
      have X7 := Lib.hid (And.intro i7 (And.intro s7 o7))
      clear HH i7 s7 o7
      go_wp2_with fail
      go_roundw
      case rel =>
        obtain ⟨i7, s7, o7⟩ := X7.out
        exact ⟨4, c7, by omega, by first | rfl | go_num, by simpa [hashL] using i7, HX.out.1.keep s7 n0, HX.out.2.1.trans s7, o7⟩
      case measure => simp [intOf]
    · rw [encH_eq] at iw
      have hle : (encH h).length ≤ 1000000000 := by
        rw [← encH_eq]
        have := hlen
        omega
      have DN := done_any ok iw rfl hle kx
      have X8 := Lib.hid st
      clear iw ah st ok D hlen
      go_wp2_with fail
      with_reducible refine DN.mono ?_
      rintro e w7 ⟨v, rfl, c7, sl7, s7, o7⟩
      have X7 := Lib.hid (And.intro sl7 (And.intro s7 o7))
      clear DN sl7 s7 o7
      go_wp2_with fail
      go_ret2
      obtain ⟨sl7, s7, o7⟩ := X7.out
      exact ⟨v, rfl, c7, sl7, (X8.out.trans s7.ofNo).own2 HA.out.2.2.2.2.1 HA.out.2.2.2.2.2, o7⟩
end
end Go.Proofs.YtgcobbapaaihiaaGreat

set_option linter.unusedVariables false
set_option linter.unusedSimpArgs false
namespace Go.Proofs.YtgcobbapaaihiaaGreat
open Go.RowKit

/-- A block. -/
structure Blo where
  h : Hdr
  cm : Cmt
  vals : List Vld

/-- Its cells. -/
def bloC (b : Blo) (vc vv : Value) : List Value := hdrC b.h ++ (cmC b.cm vc ++ [vv])

/-- A block reads: its votes of colour k, its validators of colour k too. -/
structure Blo.At (b : Blo) (c : Col) (k : Nat) (w : World) (vc vv : Value) : Prop where
  h : b.h.Wf
  hash : b.cm.hash.length = 32
  height : IntKind.i64.has b.cm.height
  votes : Sl TVot c k k w vc b.cm.votes
  vals : Sl TVal c k k w vv b.vals
  nvotes : b.cm.votes.length ≤ 1000000000
  nvals : b.vals.length ≤ 1000000000

theorem Blo.At.keep {b : Blo} {K : Nat → Prop} {c c' : Col} {k : Nat} {w w' : World} {vc vv : Value} (h : b.At c k w vc vv) (hs : Step K c w c' w') (hk : ¬ K k) : b.At c' k w' vc vv :=
  ⟨h.h, h.hash, h.height, h.votes.keep hs hk hk, h.vals.keep hs hk hk, h.nvotes, h.nvals⟩
theorem Blo.At.kn {b : Blo} {c c' : Col} {k : Nat} {w w' : World} {vc vv : Value} (h : b.At c k w vc vv) (hs : Step No c w c' w') : b.At c' k w' vc vv := h.keep hs (fun h => h)

theorem bloC_len {b : Blo} (h1 : b.h.Wf) (h2 : b.cm.hash.length = 32) (vc vv : Value) : (bloC b vc vv).length = 166 := by simp [bloC, hdrC_len h1, cmC_len h2]
theorem info_blo : (Tryz.prog.info? 59).map (·.size) = some 166 := by kernel_rfl
theorem cmC_one {x : Cmt} {vv : Value} (h : vv.oneCell' = true) : ∀ v ∈ cmC x vv, v.oneCell' = true := by
  intro v hv
  simp only [cmC, List.mem_cons, List.mem_append, List.not_mem_nil, or_false] at hv
  rcases hv with rfl | hv | rfl
  · rfl
  · exact bC_one _ v hv
  · exact h
theorem sl_one {α : Type} {T : Ty α} {c : Col} {k k2 : Nat} {w : World} {v : Value} {l : List α} (h : Sl T c k k2 w v l) : v.oneCell' = true := by
  obtain ⟨a, cap, rfl, _⟩ := h.form; rfl
theorem bloC_one {b : Blo} {c : Col} {k : Nat} {w : World} {vc vv : Value} (h : b.At c k w vc vv) : ∀ v ∈ bloC b vc vv, v.oneCell' = true := by
  intro v hv
  simp only [bloC, List.mem_append, List.mem_cons, List.not_mem_nil, or_false] at hv
  rcases hv with hv | hv | rfl
  · exact hdrC_one _ v hv
  · exact cmC_one (sl_one h.votes) v hv
  · exact sl_one h.vals

/-- Where its parts stand. -/
theorem bloC_at {b : Blo} {w : World} {bx o : Nat} {vc vv : Value} (h1 : b.h.Wf) (h2 : b.cm.hash.length = 32) (h : CellsAt w bx o (bloC b vc vv)) :
    CellsAt w bx o (hdrC b.h) ∧ CellsAt w bx (o + 131) (cmC b.cm vc) ∧ w.cell? ⟨bx, o + 165, none⟩ = some vv := by
  have e1 := (cells_app h).1
  have e2 := (cells_app h).2
  rw [hdrC_len h1] at e2
  have e3 := (cells_app e2).1
  have e4 := (cells_app e2).2 0 vv rfl
  rw [cmC_len h2] at e4
  exact ⟨e1, e3, by simpa [Nat.add_assoc] using e4⟩

/-- The first error. -/
def firstE : List Int → Int
  | [] => 0
  | e :: r => if e ≠ 0 then e else firstE r
def partsE (b : Blo) : List Int := [checkH b.h, checkV b.vals, checkC b.cm]

section
variable {c : Col} {w : World}

set_option maxRecDepth 100000 in
theorem parts1_any (hok : Ok c w) {b : Blo} {k bx kx : Nat} {vc vv : Value} (hb : b.At c k w vc vv) (ha : At c w bx kx (bloC b vc vv)) :
    Calls Tryz.prog 249 #[.pointer (some ⟨bx, 0, none⟩)] w fun r w' => r = .returned (.int .i64 (checkH b.h)) ∧ ∃ c', Step No c w c' w' ∧ Ok c' w' := by
  have C := check_any hok b.h hb.h
  have hl := hdrC_len hb.h
  have hc := (bloC_at hb.h hb.hash ha.cells).1
  obtain ⟨B, hB⟩ : ∃ B, hdrC b.h = B := ⟨_, rfl⟩
  rw [hB] at C hl hc
  have X := Lib.hid (And.intro hc (show (Tryz.prog.info? 53).map (·.size) = some B.length by rw [info_hdr, hl]))
  clear hb ha hok hl hc hB
  go_enter Tryz.func249, Tryz.ntmps249
  go_wp2_with (refine wpList_load_mid rfl 53 _ rfl bx 0 rfl B _ X.out.1 Tryz.underlying53 rfl X.out.2 ?_)
  with_reducible refine C.mono ?_
  rintro e w1 ⟨rfl, c1, s1, o1⟩
  have Y := Lib.hid (And.intro s1 o1)
  clear C s1 o1
  go_wp2_with fail
  go_ret
  exact ⟨rfl, c1, Y.out⟩

set_option maxRecDepth 100000 in
theorem parts2_any (hok : Ok c w) {b : Blo} {k bx kx : Nat} {vc vv : Value} (hb : b.At c k w vc vv) (ha : At c w bx kx (bloC b vc vv)) :
    Calls Tryz.prog 250 #[.pointer (some ⟨bx, 0, none⟩)] w fun r w' => r = .returned (.int .i64 (checkV b.vals)) ∧ ∃ c', Step No c w c' w' ∧ Ok c' w' := by
  have C := vcheck_any hok hb.vals hb.nvals
  have hc := (bloC_at hb.h hb.hash ha.cells).2.2
  rw [Nat.zero_add] at hc
  clear hb ha hok
  go_enter Tryz.func250, Tryz.ntmps250
  go_wp2_with fail
  with_reducible refine C.mono ?_
  rintro e w1 ⟨rfl, c1, s1, o1⟩
  have Y := Lib.hid (And.intro s1 o1)
  clear C s1 o1
  go_wp2_with fail
  go_ret
  exact ⟨rfl, c1, Y.out⟩

set_option maxRecDepth 100000 in
theorem parts3_any (hok : Ok c w) {b : Blo} {k bx kx : Nat} {vc vv : Value} (hb : b.At c k w vc vv) (ha : At c w bx kx (bloC b vc vv)) :
    Calls Tryz.prog 251 #[.pointer (some ⟨bx, 0, none⟩)] w fun r w' => r = .returned (.int .i64 (checkC b.cm)) ∧ ∃ c', Step No c w c' w' ∧ Ok c' w' := by
  have C := ccheck_any hok b.cm hb.hash hb.votes hb.nvotes
  have hl := cmC_len hb.hash vc
  have hc := (bloC_at hb.h hb.hash ha.cells).2.1
  rw [Nat.zero_add] at hc
  obtain ⟨B, hB⟩ : ∃ B, cmC b.cm vc = B := ⟨_, rfl⟩
  rw [hB] at C hl hc
  have X := Lib.hid (And.intro hc (show (Tryz.prog.info? 56).map (·.size) = some B.length by rw [info_cmt, hl]))
  clear hb ha hok hl hc hB
  go_enter Tryz.func251, Tryz.ntmps251
  go_wp2_with (refine wpList_load_mid rfl 56 _ rfl bx 131 rfl B _ X.out.1 Tryz.underlying56 rfl X.out.2 ?_)
  with_reducible refine C.mono ?_
  rintro e w1 ⟨rfl, c1, s1, o1⟩
  have Y := Lib.hid (And.intro s1 o1)
  clear C s1 o1
  go_wp2_with fail
  go_ret
  exact ⟨rfl, c1, Y.out⟩

/-- What must hold of a block's parts: three functions. -/
def partsF (bx : Nat) : List Value := [.func (.func 249) #[] #[.pointer (some ⟨bx, 0, none⟩)], .func (.func 250) #[] #[.pointer (some ⟨bx, 0, none⟩)], .func (.func 251) #[] #[.pointer (some ⟨bx, 0, none⟩)]]

set_option maxRecDepth 100000 in
theorem parts_any (hok : Ok c w) (B : List Value) :
    Calls Tryz.prog 246 #[.agg B.toArray] w fun r w' => ∃ bx g, r = .returned (.slice (some ⟨g, 0, none⟩) 3 3) ∧ ∃ c', At c' w' bx 0 B ∧ At c' w' g 0 (partsF bx) ∧ Step No c w c' w' ∧ Ok c' w' := by
  have a0 := At.new0 hok B 59
  have o0 := hok.alloc (.cells B.toArray 59)
  have s0 : Step No c w c (w.alloc (.cells B.toArray 59)) := Step.refl.alloc _
  have a1 := At.new0 o0 (partsF w.heap.size) 318
  have o1 := o0.alloc (.cells (partsF w.heap.size).toArray 318)
  have s1 : Step No c (w.alloc (.cells B.toArray 59)) c ((w.alloc (.cells B.toArray 59)).alloc (.cells (partsF w.heap.size).toArray 318)) := Step.refl.alloc _
  have hmf : ∀ (fn : Fn) (first cap : Array Value) (w : World), (Instr.makeFunc fn first cap).run Tryz.prog w = .ok (.func fn first cap) w := fun _ _ _ _ => rfl
  rw [World.size_alloc] at a1
  have X := Lib.hid (And.intro (a0.keep s1 (fun h => h)) (And.intro a1 (And.intro (s0.trans s1) o1)))
  clear a0 o0 s0 a1 o1 s1 hok
  go_enter Tryz.func246, Tryz.ntmps246
  go_wp2_with fail
  go_ret
  exact ⟨w.heap.size, w.heap.size + 1, rfl, c, X.out⟩
end
end Go.Proofs.YtgcobbapaaihiaaGreat
