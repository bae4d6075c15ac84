/- ServerKnown, part 20: lemmas, each with its own conditions. -/
import Derived.Test.YtgcobbapaaihiaaGreatSk03
import Derived.Test.YtgcobbapaaihiaaGreatSk04
import Derived.Test.YtgcobbapaaihiaaGreatSk07
import Derived.Test.YtgcobbapaaihiaaGreatSk09
import Derived.Test.YtgcobbapaaihiaaGreatSk11
import Derived.Test.YtgcobbapaaihiaaGreatSk12
import Derived.Test.YtgcobbapaaihiaaGreatSk18
import Derived.Test.YtgcobbapaaihiaaGreatSk19
set_option linter.unusedVariables false
set_option linter.unusedSimpArgs false
namespace Go.Proofs.YtgcobbapaaihiaaGreat
open Go.RowKit

def cB (v : Vot) : List UInt8 := numB v.at_.toNat ++ wordB v.sig
theorem cB_len : ∀ l : List Vot, (l.map cB).flatten.length ≤ 17 * l.length
  | [] => by simp
  | x :: l => by
    have h1 := cB_len l
    have h3 := numB_len x.at_.toNat
    simp only [List.map_cons, List.flatten_cons, List.length_append, List.length_cons, cB, wordB, wordL_len]
    omega

theorem Sl.vot {c : Col} {k k2 : Nat} {w : World} {v : Value} {l : List Vot} (h : Sl TVot c k k2 w v l) : ∀ x ∈ l, IntKind.i64.has x.at_ ∧ x.sig < 18446744073709551616 := by
  intro x hx
  obtain ⟨i, hi⟩ := List.mem_iff_getElem?.1 hx
  rcases h with ⟨rfl, _⟩ | ⟨_, _, _, _, _, _, _, _, h5⟩
  · simp at hi
  · obtain ⟨vs, hr, _⟩ := h5 i x hi
    exact hr.2

/-- What stands ahead of the votes. -/
def encC0 (x : Cmt) : List UInt8 := numB x.height.toNat ++ x.hash ++ numB x.votes.length
theorem encC_eq (x : Cmt) : encC0 x ++ (x.votes.map cB).flatten = encC x := by simp [encC0, encC]; rfl
theorem encC0_len {x : Cmt} (hh : x.hash.length = 32) : (encC0 x).length ≤ 50 := by
  have := numB_len x.height.toNat
  have := numB_len x.votes.length
  simp [encC0]; omega

section
variable {c : Col} {w : World}

set_option maxRecDepth 100000 in
set_option maxHeartbeats 1600000 in
theorem encodeC_bad (hok : Ok c w) (x : Cmt) (hh : x.hash.length = 32) {vv : Value} {kx k2 : Nat} (hv : Sl TVot c kx k2 w vv x.votes) (hn : x.votes.length ≤ 1000000000) (hc : checkC x ≠ 0) :
    Calls Tryz.prog 247 #[.agg (cmC x vv).toArray] w fun r w' => r = .returned (.tuple #[.slice none 0 0, .int .i64 (checkC x)]) ∧ ∃ c', Step No c w c' w' ∧ Ok c' w' := by
  have a0 := At.new0 hok (cmC x vv) 56
  have o0 := hok.alloc (.cells (cmC x vv).toArray 56)
  have s0 : Step No c w c (w.alloc (.cells (cmC x vv).toArray 56)) := Step.refl.alloc _
  have C := ccheck_any o0 x hh (hv.kn s0) hn
  have hl := cmC_len hh vv
  obtain ⟨e0, he⟩ : ∃ e, checkC x = e := ⟨_, rfl⟩
  obtain ⟨B, hB⟩ : ∃ B, cmC x vv = B := ⟨_, rfl⟩
  rw [he] at C hc ⊢
  rw [hB] at a0 o0 s0 C hl ⊢
  obtain ⟨xb, hxb⟩ : ∃ b, w.heap.size = b := ⟨_, rfl⟩
  rw [hxb] at a0
  have hi : Hid ((Tryz.prog.info? 56).map (·.size) = some B.length) := Lib.hid (by rw [info_cmt, hl])
  have HA := Lib.hid a0.cells
  have S := Lib.hid s0
  have hc2 : (e0 != 0) = true := by rw [bne_iff_ne]; exact hc
  clear a0 o0 s0 hl hok hB he hv
  go_enter Tryz.func247, Tryz.ntmps247
  go_wp2_with (refine wpList_load_mid rfl 56 _ rfl xb 0 rfl B _ HA.out Tryz.underlying56 rfl hi.out ?_)
  with_reducible refine C.mono ?_
  rintro e w1 ⟨rfl, c1, s1, o1⟩
  have X := Lib.hid (And.intro (S.out.trans s1) o1)
  clear C s1 o1
  go_wp2_with fail
  go_ret2
  exact ⟨rfl, c1, X.out⟩

set_option maxRecDepth 100000 in
set_option maxHeartbeats 1600000 in
theorem encodeC_ok (hok : Ok c w) (x : Cmt) (hh : x.hash.length = 32) {vv : Value} {kx kx2 : Nat} (hv : Sl TVot c kx kx2 w vv x.votes) (hc : checkC x = 0) (ky : Nat) :
    Calls Tryz.prog 247 #[.agg (cmC x vv).toArray] w fun r w' => ∃ v', r = .returned (.tuple #[v', .int .i64 0]) ∧ ∃ c', Sl TByte c' ky 0 w' v' (encC x) ∧ Step No c w c' w' ∧ Ok c' w' := by
  obtain ⟨q, hq, hqc⟩ := hok.top (kx + kx2)
  have hq0 : q ≠ 0 := by omega
  obtain ⟨hh1, hh2, hlen, hat⟩ := checkC_ok hc
  obtain ⟨va, vc, rfl, _⟩ := hv.form
  have a0 := At.new0 hok (cmC x (.slice va x.votes.length vc)) 56
  have o0 := hok.alloc (.cells (cmC x (.slice va x.votes.length vc)).toArray 56)
  have s0 : Step No c w c (w.alloc (.cells (cmC x (.slice va x.votes.length vc)).toArray 56)) := Step.refl.alloc _
  have C := ccheck_any o0 x hh (hv.kn s0) (by omega)
  rw [hc] at C
  have hsig := hv.vot
  have hl := cmC_len hh (.slice va x.votes.length vc)
  have hE0 := encC0_len hh
  have n0 : ∀ {x}, x < q → ¬ Two q (q + 1) x := fun hx h => by rcases h with h | h <;> omega
  obtain ⟨xb, hxb⟩ : ∃ b, w.heap.size = b := ⟨_, rfl⟩
  rw [hxb] at a0
  have Y0 : ∀ c' w', At c' w' xb 0 (cmC x (.slice va x.votes.length vc)) → _ := fun c' w' (a : At c' w' xb 0 (cmC x (.slice va x.votes.length vc))) => cmC_get hh a
  obtain ⟨B, hB⟩ : ∃ B, cmC x (.slice va x.votes.length vc) = B := ⟨_, rfl⟩
  rw [hB] at a0 o0 s0 C hl Y0 ⊢
  have hi : Hid ((Tryz.prog.info? 56).map (·.size) = some B.length) := Lib.hid (by rw [info_cmt, hl])
  have HL := Lib.hid (And.intro hlen (And.intro hat (And.intro hsig (And.intro hh (And.intro hh1 (And.intro hh2 hE0))))))
  have HY := Lib.hid Y0
  have X0 := Lib.hid (And.intro (hv.kn s0) (And.intro a0 s0))
  have e1 : ((x.height.toNat : Nat) : Int) = x.height := Int.toNat_of_nonneg (by omega)
  have HE := Lib.hid e1
  clear hv hok hc hlen hat hsig a0 o0 s0 hl hE0 Y0 hB hh1 hh2 hh e1
  go_enter Tryz.func247, Tryz.ntmps247
  go_wp2_with (refine wpList_load_mid rfl 56 _ rfl xb 0 rfl B _ X0.out.2.1.cells Tryz.underlying56 rfl hi.out ?_)
  with_reducible refine C.mono ?_
  rintro e w1 ⟨rfl, c1, s1, o1⟩
  have N := newWriter_any o1 1048576 (by omega) (by omega) q (q + 1)
  have X1 := Lib.hid (And.intro (X0.out.1.kn s1) (And.intro (X0.out.2.1.keep s1 (fun h => h)) (X0.out.2.2.trans s1)))
  clear C s1 o1 X0
  go_wp2_with fail
  with_reducible refine N.mono ?_
  rintro e w2 ⟨rfl, c2, i2, s2, o2⟩
  obtain ⟨p, hp⟩ : ∃ p, w1.heap.size = p := ⟨_, rfl⟩
  rw [hp] at i2 ⊢
  have T := num_any o2 i2 hq0 (Nat.succ_ne_zero _) (by omega) (by omega) (by simp) x.height.toNat (by have := HL.out.2.2.2.2.2.1; omega)
  rw [putS_fits (by have := numB_len x.height.toNat; simp; omega), HE.out, List.nil_append] at T
  have a2 := X1.out.2.1.keep s2 (fun h => h)
  have z0 := (HY.out _ _ a2).1
  have X2 := Lib.hid (And.intro (X1.out.1.kn s2) (And.intro a2 (X1.out.2.2.trans s2)))
  clear N i2 s2 o2 hp X1 a2
  go_wp2_with fail
  with_reducible refine T.mono ?_
  rintro e w3 ⟨rfl, c3, i3, s3, o3⟩
  have a3 := X2.out.2.1.keep s3 (n0 (by omega))
  have HH := hash_any o3 i3 hq0 (Nat.succ_ne_zero _) (by omega) (by omega) (by have := numB_len x.height.toNat; dsimp only; omega) x.hash HL.out.2.2.2.1
  rw [putS_fits (by have := numB_len x.height.toNat; have := HL.out.2.2.2.1; omega)] at HH
  have hcH := (HY.out _ _ a3).2.1
  have hHl : (bC x.hash).length = 32 := by rw [bC_len, HL.out.2.2.2.1]
  have hHi : (Tryz.prog.info? 51).map (·.size) = some (bC x.hash).length := by rw [info_hash, hHl]
  obtain ⟨V, hV⟩ : ∃ V, bC x.hash = V := ⟨_, rfl⟩
  rw [hV] at HH hcH hHi
  have X3 := Lib.hid (And.intro (X2.out.1.keep s3 (n0 (by omega)) (n0 (by omega))) (And.intro a3 (And.intro (X2.out.2.2.ofNo.trans s3) (And.intro hcH hHi))))
  clear T i3 s3 o3 X2 a3 z0 hcH hHl hHi hV
  go_wp2_with (refine wpList_load_mid rfl 51 _ rfl xb 1 rfl V _ X3.out.2.2.2.1 Tryz.underlying51 rfl X3.out.2.2.2.2 ?_)
  with_reducible refine HH.mono ?_
  rintro e w4 ⟨rfl, c4, i4, s4, o4⟩
  have a4 := X3.out.2.1.keep s4 (n0 (by omega))
  have NV := num_any o4 i4 hq0 (Nat.succ_ne_zero _) (by omega) (by omega) (by have := numB_len x.height.toNat; have := HL.out.2.2.2.1; simp only [List.length_append]; omega) x.votes.length (by have := HL.out.1; omega)
  rw [putS_fits (by have := numB_len x.height.toNat; have := numB_len x.votes.length; have := HL.out.2.2.2.1; simp only [List.length_append]; omega)] at NV
  have z33 := (HY.out _ _ a4).2.2
  have X4 := Lib.hid (And.intro (X3.out.1.keep s4 (n0 (by omega)) (n0 (by omega))) (And.intro a4 (X3.out.2.2.1.trans s4)))
  clear HH i4 s4 o4 X3 a4
  go_wp2_with fail
  with_reducible refine NV.mono ?_
  rintro e w5 ⟨rfl, c5, i5, s5, o5⟩
  have a5 := X4.out.2.1.keep s5 (n0 (by omega))
  have y33 := (HY.out _ _ a5).2.2
  have X5 := Lib.hid (And.intro i5 (And.intro (X4.out.1.keep s5 (n0 (by omega)) (n0 (by omega))) (And.intro (X4.out.2.2.trans s5) o5)))
  clear NV i5 s5 o5 X4 a5 z33 HY
  obtain ⟨l, hl⟩ : ∃ l, x.votes = l := ⟨_, rfl⟩
  have HVl := Lib.hid hl
  go_wp2_with fail
  have X6 : RowKit.Hid (IsWr c5 q (q + 1) w5 p 1048576 (encC0 x, 0) ∧ Sl TVot c5 kx kx2 w5 (.slice va l.length vc) l ∧ Step (Two q (q + 1)) c w c5 w5 ∧ Ok c5 w5) := Lib.hid (by
    obtain ⟨i5, l5, s5, o5⟩ := X5.out
    rw [hl] at l5
    exact ⟨i5, l5, s5, o5⟩)
  have hll : l.length ≤ 64 := by have := HL.out.1; rw [hl] at this; exact this
  have hvl : ∀ v ∈ l, (0 ≤ v.at_ ∧ v.at_ < 64) ∧ v.sig < 18446744073709551616 := fun v hv => ⟨HL.out.2.1 v (by rw [hl]; exact hv), (HL.out.2.2.1 v (by rw [hl]; exact hv)).2⟩
  have HLL := Lib.hid (And.intro hll hvl)
  clear hl hll hvl X5 y33
  go_loopw [34] (fun vi wr => ∃ (i : Nat) (cr : Col), i ≤ l.length ∧ vi = .int .i64 i ∧ IsWr cr q (q + 1) wr p 1048576 (encC0 x ++ ((l.take i).map cB).flatten, 0) ∧ Sl TVot cr kx kx2 wr (.slice va l.length vc) l ∧ Step (Two q (q + 1)) c w cr wr ∧ Ok cr wr) (fun vi _ => l.length - (intOf vi).toNat)
  case atStart => exact ⟨0, _, Nat.zero_le _, rfl, by simpa using X6.out.1, X6.out.2⟩
  case round =>
    clear X6
    obtain ⟨i, cr, hi, rfl, iw, sl, st, ok⟩ := hrel
    by_cases hlt : i < l.length
    · obtain ⟨u, hu⟩ : ∃ u, l[i]? = some u := ⟨l[i], by simp [hlt]⟩
      obtain ⟨g, off, cap, e, hcap, hcm⟩ := sl.some (by omega)
      injection e with e1 _ e2
      subst e1 e2
      obtain ⟨vs, ⟨rfl, hat, hsg⟩, hcs⟩ := sl.at hu
      have y0 := hcs.get 0 rfl
      have y1 := hcs.get 1 rfl
      simp only [TVot, Nat.add_zero] at y0 y1
      have hp1 := HLL.out.2 u (List.mem_of_getElem? hu)
      have hlen17 : ((l.take i).map cB).flatten.length ≤ 1088 := by
        have := cB_len (l.take i)
        have h2 : (l.take i).length ≤ 64 := by rw [List.length_take]; have := HLL.out.1; omega
        omega
      have hE0 := HL.out.2.2.2.2.2.2
      have s2 : Step No cr wr cr (wr.alloc (.cells #[.int .i64 u.at_, .int .u64 u.sig] 106)) := Step.refl.alloc _
      have a2 := At.new0 ok [.int .i64 u.at_, .int .u64 u.sig] 106
      have NM := num_any (ok.alloc (.cells #[.int .i64 u.at_, .int .u64 u.sig] 106)) (iw.kn s2) hq0 (Nat.succ_ne_zero _) (by omega) (by omega) (by simp only [List.length_append]; omega) u.at_.toNat (by omega)
      rw [putS_fits (by have := numB_len u.at_.toNat; simp only [List.length_append]; omega), Int.toNat_of_nonneg (by omega)] at NM
      have X2 := Lib.hid (And.intro (sl.kn s2) (And.intro (st.trans s2.ofNo) (And.intro a2 (And.intro hp1 (And.intro hlen17 hu)))))
      have hlt' : (i : Int) < (l.length : Int) := by omega
      have hi64 : (i : Int) < 64 := by have := HLL.out.1; omega
      obtain ⟨bx, hbx⟩ : ∃ b, wr.heap.size = b := ⟨_, rfl⟩
      rw [hbx] at X2
      clear hcs s2 a2 iw sl st ok hp1 hlen17 hE0 hat hsg
      go_wp2_with fail
      (try rw [hbx])
      with_reducible refine NM.mono ?_
      rintro e1 w7 ⟨rfl, c7, i7, s7, o7⟩
      have a7 := X2.out.2.2.1.keep s7 (n0 (by omega))
      have y7 := a7.get (i := 1) rfl
      have WD := wword_any o7 i7 hq0 (Nat.succ_ne_zero _) (by omega) (by omega) (by have := HL.out.2.2.2.2.2.2; have := X2.out.2.2.2.2.1; have := numB_len u.at_.toNat; simp only [List.length_append]; omega) u.sig X2.out.2.2.2.1.2
      rw [putS_fits (by have := HL.out.2.2.2.2.2.2; have := X2.out.2.2.2.2.1; have := numB_len u.at_.toNat; simp only [List.length_append, wordB, wordL_len]; omega)] at WD
      have X7 := Lib.hid (And.intro (X2.out.1.keep s7 (n0 (by omega)) (n0 (by omega))) (X2.out.2.1.trans s7))
      clear NM i7 s7 o7 a7
      go_wp2_with fail
      with_reducible refine WD.mono ?_
      rintro e1 w8 ⟨rfl, c8, i8, s8, o8⟩
      have X8 := Lib.hid (And.intro i8 (And.intro (X7.out.1.keep s8 (n0 (by omega)) (n0 (by omega))) (And.intro (X7.out.2.trans s8) o8)))
      clear WD i8 s8 o8 y7
      go_wp2_with fail
      go_roundw
      case rel =>
        refine ⟨i + 1, c8, by omega, by go_num, ?_, X8.out.2⟩
        have e1 : encC0 x ++ ((l.take (i + 1)).map cB).flatten = encC0 x ++ ((l.take i).map cB).flatten ++ numB u.at_.toNat ++ wordB u.sig := by
          rw [List.take_add_one, X2.out.2.2.2.2.2]; simp [cB]
        rw [e1]; exact X8.out.1
      case measure => simp [intOf]; omega
    · have hil : i = l.length := by omega
      subst hil
      rw [List.take_length] at iw
      have hE : encC0 x ++ (l.map cB).flatten = encC x := by rw [← encC_eq, HVl.out]
      rw [hE] at iw
      have hle : (encC x).length ≤ 1000000000 := by
        have := cB_len l
        have := HLL.out.1
        have := HL.out.2.2.2.2.2.2
        rw [← hE, List.length_append]; omega
      have D := done_any ok iw rfl hle ky
      have X3 := Lib.hid ((st.drop (K' := No) fun b _ e => by have := hqc b; rcases e with e | e <;> omega))
      clear iw sl st ok
      go_wp2_with fail
      with_reducible refine D.mono ?_
      rintro e1 w8 ⟨v', rfl, c8, p8, s8, o8⟩
      have X8 := Lib.hid (And.intro p8 (And.intro (X3.out.trans s8) o8))
      clear D p8 s8 o8
      go_wp2_with fail
      go_ret2
      exact ⟨v', rfl, c8, X8.out⟩
end
end Go.Proofs.YtgcobbapaaihiaaGreat

set_option linter.unusedVariables false
set_option linter.unusedSimpArgs false
namespace Go.Proofs.YtgcobbapaaihiaaGreat
open Go.RowKit

/-- A block. -/
structure Blo where
  h : Hdr
  cm : Cmt
  vals : List Vld

/-- Its cells. -/
def bloC (b : Blo) (vc vv : Value) : List Value := hdrC b.h ++ (cmC b.cm vc ++ [vv])

/-- A block reads: its votes of colour k, its validators of colour k too. -/
structure Blo.At (b : Blo) (c : Col) (k : Nat) (w : World) (vc vv : Value) : Prop where
  h : b.h.Wf
  hash : b.cm.hash.length = 32
  height : IntKind.i64.has b.cm.height
  votes : Sl TVot c k k w vc b.cm.votes
  vals : Sl TVal c k k w vv b.vals
  nvotes : b.cm.votes.length ≤ 1000000000
  nvals : b.vals.length ≤ 1000000000

theorem Blo.At.keep {b : Blo} {K : Nat → Prop} {c c' : Col} {k : Nat} {w w' : World} {vc vv : Value} (h : b.At c k w vc vv) (hs : Step K c w c' w') (hk : ¬ K k) : b.At c' k w' vc vv :=
  ⟨h.h, h.hash, h.height, h.votes.keep hs hk hk, h.vals.keep hs hk hk, h.nvotes, h.nvals⟩
theorem Blo.At.kn {b : Blo} {c c' : Col} {k : Nat} {w w' : World} {vc vv : Value} (h : b.At c k w vc vv) (hs : Step No c w c' w') : b.At c' k w' vc vv := h.keep hs (fun h => h)

theorem bloC_len {b : Blo} (h1 : b.h.Wf) (h2 : b.cm.hash.length = 32) (vc vv : Value) : (bloC b vc vv).length = 166 := by simp [bloC, hdrC_len h1, cmC_len h2]
theorem info_blo : (Tryz.prog.info? 59).map (·.size) = some 166 := by kernel_rfl
theorem cmC_one {x : Cmt} {vv : Value} (h : vv.oneCell' = true) : ∀ v ∈ cmC x vv, v.oneCell' = true := by
  intro v hv
  simp only [cmC, List.mem_cons, List.mem_append, List.not_mem_nil, or_false] at hv
  rcases hv with rfl | hv | rfl
  · rfl
  · exact bC_one _ v hv
  · exact h
theorem sl_one {α : Type} {T : Ty α} {c : Col} {k k2 : Nat} {w : World} {v : Value} {l : List α} (h : Sl T c k k2 w v l) : v.oneCell' = true := by
  obtain ⟨a, cap, rfl, _⟩ := h.form; rfl
theorem bloC_one {b : Blo} {c : Col} {k : Nat} {w : World} {vc vv : Value} (h : b.At c k w vc vv) : ∀ v ∈ bloC b vc vv, v.oneCell' = true := by
  intro v hv
  simp only [bloC, List.mem_append, List.mem_cons, List.not_mem_nil, or_false] at hv
  rcases hv with hv | hv | rfl
  · exact hdrC_one _ v hv
  · exact cmC_one (sl_one h.votes) v hv
  · exact sl_one h.vals

/-- Where its parts stand. -/
theorem bloC_at {b : Blo} {w : World} {bx o : Nat} {vc vv : Value} (h1 : b.h.Wf) (h2 : b.cm.hash.length = 32) (h : CellsAt w bx o (bloC b vc vv)) :
    CellsAt w bx o (hdrC b.h) ∧ CellsAt w bx (o + 131) (cmC b.cm vc) ∧ w.cell? ⟨bx, o + 165, none⟩ = some vv := by
  have e1 := (cells_app h).1
  have e2 := (cells_app h).2
  rw [hdrC_len h1] at e2
  have e3 := (cells_app e2).1
  have e4 := (cells_app e2).2 0 vv rfl
  rw [cmC_len h2] at e4
  exact ⟨e1, e3, by simpa [Nat.add_assoc] using e4⟩

/-- The first error. -/
def firstE : List Int → Int
  | [] => 0
  | e :: r => if e ≠ 0 then e else firstE r
def partsE (b : Blo) : List Int := [checkH b.h, checkV b.vals, checkC b.cm]

section
variable {c : Col} {w : World}

set_option maxRecDepth 100000 in
theorem parts1_any (hok : Ok c w) {b : Blo} {k bx kx : Nat} {vc vv : Value} (hb : b.At c k w vc vv) (ha : At c w bx kx (bloC b vc vv)) :
    Calls Tryz.prog 249 #[.pointer (some ⟨bx, 0, none⟩)] w fun r w' => r = .returned (.int .i64 (checkH b.h)) ∧ ∃ c', Step No c w c' w' ∧ Ok c' w' := by
  have C := check_any hok b.h hb.h
  have hl := hdrC_len hb.h
  have hc := (bloC_at hb.h hb.hash ha.cells).1
  obtain ⟨B, hB⟩ : ∃ B, hdrC b.h = B := ⟨_, rfl⟩
  rw [hB] at C hl hc
  have X := Lib.hid (And.intro hc (show (Tryz.prog.info? 53).map (·.size) = some B.length by rw [info_hdr, hl]))
  clear hb ha hok hl hc hB
  go_enter Tryz.func249, Tryz.ntmps249
  go_wp2_with (refine wpList_load_mid rfl 53 _ rfl bx 0 rfl B _ X.out.1 Tryz.underlying53 rfl X.out.2 ?_)
  with_reducible refine C.mono ?_
  rintro e w1 ⟨rfl, c1, s1, o1⟩
  have Y := Lib.hid (And.intro s1 o1)
  clear C s1 o1
  go_wp2_with fail
  go_ret
  exact ⟨rfl, c1, Y.out⟩

set_option maxRecDepth 100000 in
theorem parts2_any (hok : Ok c w) {b : Blo} {k bx kx : Nat} {vc vv : Value} (hb : b.At c k w vc vv) (ha : At c w bx kx (bloC b vc vv)) :
    Calls Tryz.prog 250 #[.pointer (some ⟨bx, 0, none⟩)] w fun r w' => r = .returned (.int .i64 (checkV b.vals)) ∧ ∃ c', Step No c w c' w' ∧ Ok c' w' := by
  have C := vcheck_any hok hb.vals hb.nvals
  have hc := (bloC_at hb.h hb.hash ha.cells).2.2
  rw [Nat.zero_add] at hc
  clear hb ha hok
  go_enter Tryz.func250, Tryz.ntmps250
  go_wp2_with fail
  with_reducible refine C.mono ?_
  rintro e w1 ⟨rfl, c1, s1, o1⟩
  have Y := Lib.hid (And.intro s1 o1)
  clear C s1 o1
  go_wp2_with fail
  go_ret
  exact ⟨rfl, c1, Y.out⟩

set_option maxRecDepth 100000 in
theorem parts3_any (hok : Ok c w) {b : Blo} {k bx kx : Nat} {vc vv : Value} (hb : b.At c k w vc vv) (ha : At c w bx kx (bloC b vc vv)) :
    Calls Tryz.prog 251 #[.pointer (some ⟨bx, 0, none⟩)] w fun r w' => r = .returned (.int .i64 (checkC b.cm)) ∧ ∃ c', Step No c w c' w' ∧ Ok c' w' := by
  have C := ccheck_any hok b.cm hb.hash hb.votes hb.nvotes
  have hl := cmC_len hb.hash vc
  have hc := (bloC_at hb.h hb.hash ha.cells).2.1
  rw [Nat.zero_add] at hc
  obtain ⟨B, hB⟩ : ∃ B, cmC b.cm vc = B := ⟨_, rfl⟩
  rw [hB] at C hl hc
  have X := Lib.hid (And.intro hc (show (Tryz.prog.info? 56).map (·.size) = some B.length by rw [info_cmt, hl]))
  clear hb ha hok hl hc hB
  go_enter Tryz.func251, Tryz.ntmps251
  go_wp2_with (refine wpList_load_mid rfl 56 _ rfl bx 131 rfl B _ X.out.1 Tryz.underlying56 rfl X.out.2 ?_)
  with_reducible refine C.mono ?_
  rintro e w1 ⟨rfl, c1, s1, o1⟩
  have Y := Lib.hid (And.intro s1 o1)
  clear C s1 o1
  go_wp2_with fail
  go_ret
  exact ⟨rfl, c1, Y.out⟩

/-- What must hold of a block's parts: three functions. -/
def partsF (bx : Nat) : List Value := [.func (.func 249) #[] #[.pointer (some ⟨bx, 0, none⟩)], .func (.func 250) #[] #[.pointer (some ⟨bx, 0, none⟩)], .func (.func 251) #[] #[.pointer (some ⟨bx, 0, none⟩)]]

set_option maxRecDepth 100000 in
theorem parts_any (hok : Ok c w) (B : List Value) :
    Calls Tryz.prog 246 #[.agg B.toArray] w fun r w' => ∃ bx g, r = .returned (.slice (some ⟨g, 0, none⟩) 3 3) ∧ ∃ c', At c' w' bx 0 B ∧ At c' w' g 0 (partsF bx) ∧ Step No c w c' w' ∧ Ok c' w' := by
  have a0 := At.new0 hok B 59
  have o0 := hok.alloc (.cells B.toArray 59)
  have s0 : Step No c w c (w.alloc (.cells B.toArray 59)) := Step.refl.alloc _
  have a1 := At.new0 o0 (partsF w.heap.size) 318
  have o1 := o0.alloc (.cells (partsF w.heap.size).toArray 318)
  have s1 : Step No c (w.alloc (.cells B.toArray 59)) c ((w.alloc (.cells B.toArray 59)).alloc (.cells (partsF w.heap.size).toArray 318)) := Step.refl.alloc _
  have hmf : ∀ (fn : Fn) (first cap : Array Value) (w : World), (Instr.makeFunc fn first cap).run Tryz.prog w = .ok (.func fn first cap) w := fun _ _ _ _ => rfl
  rw [World.size_alloc] at a1
  have X := Lib.hid (And.intro (a0.keep s1 (fun h => h)) (And.intro a1 (And.intro (s0.trans s1) o1)))
  clear a0 o0 s0 a1 o1 s1 hok
  go_enter Tryz.func246, Tryz.ntmps246
  go_wp2_with fail
  go_ret
  exact ⟨w.heap.size, w.heap.size + 1, rfl, c, X.out⟩
end
end Go.Proofs.YtgcobbapaaihiaaGreat

set_option linter.unusedVariables false
set_option linter.unusedSimpArgs false
namespace Go.Proofs.YtgcobbapaaihiaaGreat
open Go.RowKit

theorem fill_at {place : Nat → Option (Nat × Nat)} {L B : List Value} {i off : Nat} {v : Value} {rest : List (Nat × Value)} (hp : place i = some (off, B.length)) (hv : v.cells = B.toArray) (h : off + B.length ≤ L.length) :
    Instr.fill place L.toArray ((i, v) :: rest) = Instr.fill place (L.take off ++ B ++ L.drop (off + B.length)).toArray rest := by
  have e := foldl_seg0 B L off h
  rw [Instr.fill, hp]
  simp only
  rw [hv, if_neg (by simp; omega), e]

/-- A segment of a block is written. -/
theorem At.seg {c : Col} {W : World} {b k : Nat} {xs os zs us : List Value} (h : At c W b k (xs ++ (os ++ zs))) (ho : Ok c W) (hk : k ≠ 0) (hl : us.length = os.length) :
    At c (W.setCells b xs.length us) b k (xs ++ (us ++ zs)) ∧ W.there b xs.length us.length := by
  have ht : W.there b xs.length us.length := h.there ho hk (by simp; omega)
  obtain ⟨h1, h2⟩ := cells_app h.cells
  obtain ⟨h3, h4⟩ := cells_app h2
  rw [Nat.zero_add] at h2 h3 h4
  have g2 := World.rangeAt_setCells_same W b xs.length us ht
  have g1 := World.rangeAt_setCells_apart h1 b xs.length us (.inr (.inl (by omega)))
  have g3 := World.rangeAt_setCells_apart h4 b xs.length us (.inr (.inr (by omega)))
  rw [← hl] at g3
  refine ⟨⟨h.col, by rw [size_setCells]; exact h.lt, cells_join g1 (cells_join (by rw [Nat.zero_add]; exact g2) (by rw [Nat.zero_add]; exact g3))⟩, ht⟩

theorem commit_fill (parts : List (Nat × Value)) : Tryz.prog.built 56 parts = Instr.fill ([(0, 1), (1, 32), (33, 1)].toArray[·]?) (zeroL 56).toArray parts := by kernel_rfl
theorem commit_zl : (zeroL 56).length = 34 ∧ (zeroL 56).drop 33 = [.slice none 0 0] := ⟨by kernel_rfl, by kernel_rfl⟩
theorem commit_built (ht : Int) {B : List Value} (hB : B.length = 32) : Tryz.prog.built 56 [(0, .int .i64 ht), (1, .agg B.toArray)] = some (.int .i64 ht :: (B ++ [.slice none 0 0])).toArray := by
  rw [commit_fill]
  obtain ⟨hz, hz2⟩ := commit_zl
  obtain ⟨Z, hZ⟩ : ∃ Z, zeroL 56 = Z := ⟨_, rfl⟩
  rw [hZ] at hz hz2 ⊢
  have e1 := fill_next (place := ([(0, 1), (1, 32), (33, 1)].toArray[·]?)) (Pf := []) (Z := Z) (B := [.int .i64 ht]) (i := 0) (v := .int .i64 ht) (rest := [(1, .agg B.toArray)]) rfl rfl (by simp [hz])
  rw [List.nil_append] at e1
  rw [e1]
  have e2 := fill_next (place := ([(0, 1), (1, 32), (33, 1)].toArray[·]?)) (Pf := [.int .i64 ht]) (Z := Z.drop 1) (B := B) (i := 1) (v := .agg B.toArray) (rest := []) (by rw [hB]; rfl) rfl (by simp [hB, hz])
  rw [List.nil_append, List.length_singleton, e2, Instr.fill, List.drop_drop, hB, hz2]
  rfl

theorem block_fill (parts : List (Nat × Value)) : Tryz.prog.built 59 parts = Instr.fill ([(0, 131), (131, 34), (165, 1)].toArray[·]?) (zeroL 59).toArray parts := by kernel_rfl
theorem block_zl : (zeroL 59).length = 166 := by kernel_rfl
theorem block_built {H C : List Value} {v : Value} (hH : H.length = 131) (hC : C.length = 34) (hv : v.oneCell' = true) (hv2 : v.cells = #[v]) : Tryz.prog.built 59 [(0, .agg H.toArray), (2, v), (1, .agg C.toArray)] = some (H ++ (C ++ [v])).toArray := by
  rw [block_fill]
  have hz := block_zl
  obtain ⟨Z, hZ⟩ : ∃ Z, zeroL 59 = Z := ⟨_, rfl⟩
  rw [hZ] at hz ⊢
  have e1 := fill_at (place := ([(0, 131), (131, 34), (165, 1)].toArray[·]?)) (L := Z) (B := H) (i := 0) (off := 0) (v := .agg H.toArray) (rest := [(2, v), (1, .agg C.toArray)]) (by rw [hH]; rfl) rfl (by omega)
  have e2 := fill_at (place := ([(0, 131), (131, 34), (165, 1)].toArray[·]?)) (L := Z.take 0 ++ H ++ Z.drop (0 + H.length)) (B := [v]) (i := 2) (off := 165) (v := v) (rest := [(1, .agg C.toArray)]) rfl (by rw [hv2]) (by simp; omega)
  have e3 := fill_at (place := ([(0, 131), (131, 34), (165, 1)].toArray[·]?)) (L := (Z.take 0 ++ H ++ Z.drop (0 + H.length)).take 165 ++ [v] ++ (Z.take 0 ++ H ++ Z.drop (0 + H.length)).drop (165 + [v].length)) (B := C) (i := 1) (off := 131) (v := .agg C.toArray) (rest := []) (by rw [hC]; rfl) rfl (by simp; omega)
  rw [e1, e2, e3, Instr.fill]
  refine congrArg (fun l : List Value => some (List.toArray l)) ?_
  obtain ⟨ZZ, hZZ⟩ : ∃ ZZ, Z.drop H.length = ZZ := ⟨_, rfl⟩
  have hzz : ZZ.length = 35 := by rw [← hZZ]; simp; omega
  have q1 : Z.take 0 ++ H ++ Z.drop (0 + H.length) = H ++ ZZ := by rw [Nat.zero_add, hZZ]; simp
  rw [q1]
  have h34 : (ZZ.take 34).length = 34 := by simp; omega
  have q2 : (H ++ ZZ).take 165 = H ++ ZZ.take 34 := by rw [List.take_append, hH, List.take_of_length_le (by omega)]
  have q3 : (H ++ ZZ).drop (165 + [v].length) = [] := List.drop_eq_nil_of_le (by simp; omega)
  rw [q2, q3, List.append_nil]
  have r1 : (H ++ ZZ.take 34 ++ [v]).take 131 = H := by rw [List.append_assoc]; exact List.take_left' hH
  have r2 : (H ++ ZZ.take 34 ++ [v]).drop (131 + C.length) = [v] := List.drop_left' (by rw [List.length_append, hH, h34, hC])
  rw [r1, r2, List.append_assoc]
end Go.Proofs.YtgcobbapaaihiaaGreat

set_option linter.unusedVariables false
set_option linter.unusedSimpArgs false
namespace Go.Proofs.YtgcobbapaaihiaaGreat
open Go.RowKit

section
variable {c : Col} {w : World}

set_option maxRecDepth 100000 in
set_option maxHeartbeats 1600000 in
theorem hashV_ok (hok : Ok c w) {kx kx2 : Nat} {v : Value} {l : List Vld} (hv : Sl TVal c kx kx2 w v l) (hc : checkV l = 0) (h64 : (encV l).length % 64 ≠ 0) (hlen : (encV l).length ≤ 900000) :
    Calls Tryz.prog 132 #[v] w fun r w' => ∃ x : List UInt8, x.length = 32 ∧ r = .returned (.tuple #[.agg (bC x).toArray, .int .i64 0]) ∧ ∃ c', Step No c w c' w' ∧ Ok c' w' := by
  obtain ⟨q, hq, hqc⟩ := hok.top 0
  have hq0 : q ≠ 0 := by omega
  obtain ⟨W1, c1, hW1, a1, o1, s1⟩ := hnew hok q
  obtain ⟨ob, hob⟩ : ∃ b, w.heap.size = b := ⟨_, rfl⟩
  rw [hob] at a1
  have EN := encodeV_ok o1 (hv.kn s1) hc 0
  obtain ⟨va, vc, rfl, _⟩ := hv.form
  have X1 := Lib.hid (And.intro a1 s1)
  have HL := Lib.hid (And.intro h64 hlen)
  clear a1 o1 s1 hok hv hc h64 hlen
  go_enter Tryz.func132, Tryz.ntmps132
  go_wp2_with fail
  (try rw [hW1])
  (try rw [hob])
  with_reducible refine EN.mono ?_
  rintro e w2 ⟨v2, rfl, c2, p2, s2, o2⟩
  have BS := hsum_any o2 p2 (by have := HL.out.2; omega) HL.out.1
  obtain ⟨vb, vd, rfl, _⟩ := p2.form
  have X2 := Lib.hid (And.intro (X1.out.1.keep s2 (fun h => h)) (X1.out.2.trans s2))
  obtain ⟨E, hE⟩ : ∃ E, encV l = E := ⟨_, rfl⟩
  rw [hE] at BS ⊢
  clear EN p2 s2 o2 hE
  go_wp2_with fail
  with_reducible refine BS.mono ?_
  rintro e w4 ⟨x, hx, rfl, c4, s4, o4⟩
  obtain ⟨⟨t1, t2, t3⟩, ⟨a7, i7⟩, s7, o7⟩ := hst o4 (X2.out.1.keep s4 (fun h => h)) (by simp) hq0 hx
  have sall : Step No c w c4 (w4.setCells ob 0 (bC x)) := by
    have t2 := ((X2.out.2.ofNo (K := fun j => q ≤ j)).trans s4.ofNo).trans (s7.mono (K' := fun j => q ≤ j) fun j (e : j = q) => by omega)
    exact t2.drop fun b _ e => by have := hqc b; omega
  obtain ⟨Y, hY⟩ : ∃ Y, bC x = Y := ⟨_, rfl⟩
  rw [hY] at t1 t2 t3 a7 i7 sall o7
  have X7 := Lib.hid (And.intro t1 (And.intro t2 (And.intro t3 (And.intro a7.cells (And.intro i7 (And.intro hY (And.intro hx (And.intro sall o7))))))))
  rw [hY]
  clear t1 t2 t3 a7 i7 hY hx sall o7 s7 s4 o4 BS
  go_wp2_with (refine wpList_store_mid rfl 51 _ _ rfl ob 0 Y.toArray rfl rfl X7.out.1 X7.out.2.1 X7.out.2.2.1 ?_)
  refine bodyPost_ret (results_cell_mid2 rfl _ _ ob 0 Y _ rfl X7.out.2.2.2.1 Tryz.underlying51 rfl X7.out.2.2.2.2.1) rfl ⟨x, X7.out.2.2.2.2.2.2.1, by rw [X7.out.2.2.2.2.2.1]; rfl, c4, X7.out.2.2.2.2.2.2.2⟩
end
end Go.Proofs.YtgcobbapaaihiaaGreat

set_option linter.unusedVariables false
set_option linter.unusedSimpArgs false
namespace Go.Proofs.YtgcobbapaaihiaaGreat
open Go.RowKit

theorem Blo.At.turn {b : Blo} {c : Col} {q k : Nat} {w : World} {vc vv : Value} (h : b.At c q w vc vv) : b.At (c.turn q k) k w vc vv :=
  ⟨h.h, h.hash, h.height, h.votes.turnAll, h.vals.turnAll, h.nvotes, h.nvals⟩

/-- A block, as an element. -/
def TBlo : Ty Blo where
  n := 166
  rd := fun c k w vs b => ∃ vc vv, vs = bloC b vc vv ∧ b.At c k w vc vv
  len := by rintro _ _ _ _ _ ⟨vc, vv, rfl, h⟩; exact bloC_len h.h h.hash vc vv
  one := by rintro _ _ _ _ _ ⟨vc, vv, rfl, h⟩; exact bloC_one h
  keep := by rintro _ _ _ _ _ _ _ _ hs hk ⟨vc, vv, h, ha⟩; exact ⟨vc, vv, h, ha.keep hs hk⟩
  turn := by rintro _ _ _ _ _ _ ⟨vc, vv, h, ha⟩; exact ⟨vc, vv, h, ha.turn⟩

theorem infoVal3 : (Tryz.prog.info? 93).map (fun i => (i.zero, i.size, i.bytes)) = some (some (.agg #[.int .u8 0, .int .u8 0, .int .u8 0, .int .u8 0, .int .i64 0]), 5, 16) := by kernel_rfl
theorem infoVot3 : (Tryz.prog.info? 106).map (fun i => (i.zero, i.size, i.bytes)) = some (some (.agg #[.int .i64 0, .int .u64 0]), 2, 16) := by kernel_rfl

section
variable {c : Col} {w : World}

theorem vclone_any (hok : Ok c w) {kx : Nat} (k : Nat) {v : Value} {l : List Vld} (hv : Sl TVal c kx 0 w v l) (hlen : l.length ≤ 1000000000) :
    Calls Tryz.prog 44 #[v] w fun e w' => ∃ v' c', e = .returned v' ∧ Own TVal 93 c' k 0 w' v' l ∧ Step No c w c' w' ∧ Ok c' w' := by
  have hn := fun (w : World) a n c => Lib.run_eql_slice_nil (P := Tryz.prog) w 57 93 a n c 0 0 Tryz.underlying57
  obtain ⟨va, vc, rfl, hva⟩ := hv.form
  cases va with
  | none =>
    obtain ⟨rfl, rfl⟩ := hva rfl
    clear hv hva hlen
    simp only [List.length_nil]
    go_enter Tryz.func44, Tryz.ntmps44
    go_wp2
    go_ret
    exact ⟨_, c, rfl, Own.nil _ _ _ _ _ _, Step.refl, hok⟩
  | some ad =>
    obtain ⟨q, hq, hqc⟩ := hok.spare kx
    have hqk : 0 ≠ q := by omega
    have hq0 : q ≠ 0 := by omega
    obtain ⟨o1, o2, o3⟩ := Own.new0 TVal 93 hok q 0
    have hx' := hv.keep o3 (fun h => h) (fun h => h)
    have hml : ([] : List Vld).length + l.length ≤ maxLen := by simp [maxLen]; omega
    have hbl : (([] : List Vld).length + l.length) * 16 ≤ 140737488355328 := by simp; omega
    clear hv hva
    go_enter Tryz.func44, Tryz.ntmps44
    go_wp2_with (at_builtin; refine wpList_app TVal o2 rfl _ _ 57 rfl 93 Tryz.underlying57 infoVal3 rfl (by decide) rfl rfl o1 hx' hqk hml hbl ?_; intro v' w' c' a1 a2 a3 _)
    go_ret
    exact ⟨v', c'.turn q k, rfl, a1.turn hqk, ((o3.ofNo.trans a2).turn rfl).own hqc, a3.turn hq0⟩

theorem cclone_any (hok : Ok c w) {kx : Nat} (k : Nat) {v : Value} {l : List Vot} (hv : Sl TVot c kx 0 w v l) (hlen : l.length ≤ 1000000000) :
    Calls Tryz.prog 45 #[v] w fun e w' => ∃ v' c', e = .returned v' ∧ Own TVot 106 c' k 0 w' v' l ∧ Step No c w c' w' ∧ Ok c' w' := by
  have hn := fun (w : World) a n c => Lib.run_eql_slice_nil (P := Tryz.prog) w 54 106 a n c 0 0 Tryz.underlying54
  obtain ⟨va, vc, rfl, hva⟩ := hv.form
  cases va with
  | none =>
    obtain ⟨rfl, rfl⟩ := hva rfl
    clear hv hva hlen
    simp only [List.length_nil]
    go_enter Tryz.func45, Tryz.ntmps45
    go_wp2
    go_ret
    exact ⟨_, c, rfl, Own.nil _ _ _ _ _ _, Step.refl, hok⟩
  | some ad =>
    obtain ⟨q, hq, hqc⟩ := hok.spare kx
    have hqk : 0 ≠ q := by omega
    have hq0 : q ≠ 0 := by omega
    obtain ⟨o1, o2, o3⟩ := Own.new0 TVot 106 hok q 0
    have hx' := hv.keep o3 (fun h => h) (fun h => h)
    have hml : ([] : List Vot).length + l.length ≤ maxLen := by simp [maxLen]; omega
    have hbl : (([] : List Vot).length + l.length) * 16 ≤ 140737488355328 := by simp; omega
    clear hv hva
    go_enter Tryz.func45, Tryz.ntmps45
    go_wp2_with (at_builtin; refine wpList_app TVot o2 rfl _ _ 54 rfl 106 Tryz.underlying54 infoVot3 rfl (by decide) rfl rfl o1 hx' hqk hml hbl ?_; intro v' w' c' a1 a2 a3 _)
    go_ret
    exact ⟨v', c'.turn q k, rfl, a1.turn hqk, ((o3.ofNo.trans a2).turn rfl).own hqc, a3.turn hq0⟩
end
end Go.Proofs.YtgcobbapaaihiaaGreat
