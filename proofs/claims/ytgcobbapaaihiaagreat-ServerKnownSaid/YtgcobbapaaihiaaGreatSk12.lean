/- ServerKnown, part 12: lemmas, each with its own conditions. -/
import Derived.Test.YtgcobbapaaihiaaGreatSk03
import Derived.Test.YtgcobbapaaihiaaGreatSk07
import Derived.Test.YtgcobbapaaihiaaGreatSk10
import Derived.Laws.BitsAll
import Derived.Laws.BitsAllLaws
set_option linter.unusedVariables false
set_option linter.unusedSimpArgs false
namespace Go.Proofs.YtgcobbapaaihiaaGreat
open Go.RowKit
theorem ptrI : (Tryz.prog.info? 212).map (·.size) = some 1 := by kernel_rfl
theorem index4 (a b c d : Addr) (W : World) :
    (Instr.index 213 (.agg #[.pointer (some a), .pointer (some b), .pointer (some c), .pointer (some d)]) (.int .i64 0)).run Tryz.prog W = .ok (.pointer (some a)) W ∧
    (Instr.index 213 (.agg #[.pointer (some a), .pointer (some b), .pointer (some c), .pointer (some d)]) (.int .i64 1)).run Tryz.prog W = .ok (.pointer (some b)) W ∧
    (Instr.index 213 (.agg #[.pointer (some a), .pointer (some b), .pointer (some c), .pointer (some d)]) (.int .i64 2)).run Tryz.prog W = .ok (.pointer (some c)) W ∧
    (Instr.index 213 (.agg #[.pointer (some a), .pointer (some b), .pointer (some c), .pointer (some d)]) (.int .i64 3)).run Tryz.prog W = .ok (.pointer (some d)) W := by
  have hs : (sizeOf 212).run Tryz.prog W = .ok 1 W := by
    cases hq : Tryz.prog.info? 212 with
    | none => have := ptrI; rw [hq] at this; cases this
    | some i =>
      have : i.size = 1 := by have := ptrI; rw [hq] at this; simpa using this
      simp [sizeOf, typeInfo, hq, this]
  have hu := run_underlying Tryz.underlying213 W
  have hu2 := run_underlying Tryz.underlying212 W
  refine ⟨?_, ?_, ?_, ?_⟩ <;> simp [Instr.index, asIntOf, hu, hu2, part, isAgg, hs, Value.cells]
end Go.Proofs.YtgcobbapaaihiaaGreat

set_option linter.unusedVariables false
set_option linter.unusedSimpArgs false
namespace Go.Proofs.YtgcobbapaaihiaaGreat
open Go.RowKit

section
variable {c : Col} {w : World}

set_option maxRecDepth 100000 in
set_option maxHeartbeats 3200000 in
theorem encodeH_ok (hok : Ok c w) (h : Hdr) (hw : h.Wf) (hc : checkH h = 0) (kx : Nat) :
    Calls Tryz.prog 194 #[.agg (hdrC h).toArray] w fun r w' => ∃ v, r = .returned (.tuple #[v, .int .i64 0]) ∧ ∃ c', Sl TByte c' kx 0 w' v (encH h) ∧ Step No c w c' w' ∧ Ok c' w' := by
  obtain ⟨k1, hk1, hk1c⟩ := hok.spare 0
  obtain ⟨k2, hk2, hk2c⟩ := hok.spare k1
  have k10 : k1 ≠ 0 := by omega
  have k20 : k2 ≠ 0 := by omega
  have k21 : k2 ≠ k1 := by omega
  have n0 : ¬ Two k1 k2 0 := fun h => by rcases h with h | h <;> omega
  have a0 := At.new0 hok (hdrC h) 53
  have o0 := hok.alloc (.cells (hdrC h).toArray 53)
  have s0 : Step No c w c (w.alloc (.cells (hdrC h).toArray 53)) := Step.refl.alloc _
  have C := check_any o0 h hw
  rw [hc] at C
  obtain ⟨hn, hh, ht⟩ := checkH_ok hc
  simp only [heightB, timeB, Bool.and_eq_true, decide_eq_true_eq] at hh ht
  have hnl : h.name.length ≤ 32 := by simp only [nameB, Bool.and_eq_true, decide_eq_true_eq] at hn; exact hn.1.2
  have hl := hdrC_len hw
  have hE0 := encH0_len hc
  obtain ⟨b1, hb1⟩ : ∃ b, w.heap.size = b := ⟨_, rfl⟩
  rw [hb1] at a0
  have HD : ∀ {c' w'}, At c' w' b1 0 (hdrC h) → _ := fun {c'} {w'} (a : At c' w' b1 0 (hdrC h)) => hdr_at hw a.cells
  have Y0 : ∀ {c' w'}, At c' w' b1 0 (hdrC h) → w'.cell? ⟨b1, 0, none⟩ = some (.string ⟨h.name.toArray⟩) ∧ w'.cell? ⟨b1, 1, none⟩ = some (.int .i64 h.height) ∧ w'.cell? ⟨b1, 2, none⟩ = some (.int .i64 h.time) := fun a => ⟨a.get (i := 0) rfl, a.get (i := 1) rfl, a.get (i := 2) rfl⟩
  obtain ⟨B, hB⟩ : ∃ B, hdrC h = B := ⟨_, rfl⟩
  rw [hB] at a0 o0 s0 C hl HD Y0 ⊢
  have hi : Hid ((Tryz.prog.info? 53).map (·.size) = some B.length) := Lib.hid (by rw [info_hdr, hl])
  have HA := Lib.hid (And.intro a0 (And.intro s0 (And.intro @HD (And.intro @Y0 (And.intro hk1c hk2c)))))
  have HK := Lib.hid (And.intro hw (And.intro hnl (And.intro hh (And.intro ht hE0))))
  have e1 : ((h.height.toNat : Nat) : Int) = h.height := Int.toNat_of_nonneg (by omega)
  have e2 : ((h.time.toNat : Nat) : Int) = h.time := Int.toNat_of_nonneg (by omega)
  have HE := Lib.hid (And.intro e1 e2)
  clear a0 o0 s0 hl hok hB hc hn hh ht hnl hE0 HD Y0 hk1c hk2c e1 e2 hw
  go_enter Tryz.func194, Tryz.ntmps194
  go_wp2_with (refine wpList_load_mid rfl 53 _ rfl b1 0 rfl B _ HA.out.1.cells Tryz.underlying53 rfl hi.out ?_)
  with_reducible refine C.mono ?_
  rintro e w1 ⟨rfl, c1, s1, o1⟩
  have N := newWriter_any o1 65536 (by omega) (by omega) k1 k2
  have X1 := Lib.hid (And.intro s1 o1)
  clear C s1 o1
  go_wp2_with fail
  with_reducible refine N.mono ?_
  rintro e w2 ⟨rfl, c2, i2, s2, o2⟩
  obtain ⟨p, hp⟩ : ∃ p, w1.heap.size = p := ⟨_, rfl⟩
  rw [hp] at i2 ⊢
  have A2 := (HA.out.1.keep X1.out.1 (fun h => h)).keep s2 (fun h => h)
  have S2 : Step (Two k1 k2) c w c2 w2 := ((HA.out.2.1.trans X1.out.1).trans s2).ofNo
  have T := text_any o2 i2 k10 k20 k21 (by omega) (by simp) h.name (by have := HK.out.2.1; omega)
  rw [putS_fits (by have := numB_len h.name.length; have := HK.out.2.1; simp; omega)] at T
  have z0 := (HA.out.2.2.2.1 A2).1
  have X2 := Lib.hid (And.intro A2 S2)
  clear N i2 s2 o2 A2 S2 hp
  go_wp2_with fail
  with_reducible refine T.mono ?_
  rintro e w3 ⟨rfl, c3, i3, s3, o3⟩
  have A3 := X2.out.1.keep s3 n0
  have S3 := X2.out.2.trans s3
  have T2 := num_any o3 i3 k10 k20 k21 (by omega) (by have := numB_len h.name.length; have := HK.out.2.1; simp; omega) h.height.toNat (by have := HK.out.2.2.1; omega)
  rw [putS_fits (by have := numB_len h.name.length; have := numB_len h.height.toNat; have := HK.out.2.1; simp; omega), HE.out.1] at T2
  have z1 := (HA.out.2.2.2.1 A3).2.1
  have X3 := Lib.hid (And.intro A3 S3)
  clear T i3 s3 o3 A3 S3 z0
  go_wp2_with fail
  with_reducible refine T2.mono ?_
  rintro e w4 ⟨rfl, c4, i4, s4, o4⟩
  have A4 := X3.out.1.keep s4 n0
  have S4 := X3.out.2.trans s4
  have T3 := num_any o4 i4 k10 k20 k21 (by omega) (by have := numB_len h.name.length; have := numB_len h.height.toNat; have := HK.out.2.1; simp; omega) h.time.toNat (by have := HK.out.2.2.2.1; omega)
  rw [putS_fits (by have := numB_len h.name.length; have := numB_len h.height.toNat; have := numB_len h.time.toNat; have := HK.out.2.1; simp; omega), HE.out.2] at T3
  have z2 := (HA.out.2.2.2.1 A4).2.2
  have X4 := Lib.hid (And.intro A4 S4)
  clear T2 i4 s4 o4 A4 S4 z1
  go_wp2_with fail
  with_reducible refine T3.mono ?_
  rintro e w5 ⟨rfl, c5, i5, s5, o5⟩
  have HS := hashes_any o5 b1
  have X5 := Lib.hid (And.intro i5 (And.intro (X4.out.1.keep s5 n0) (And.intro (X4.out.2.trans s5) o5)))
  clear T3 i5 s5 o5 z2
  go_wp2_with fail
  with_reducible refine HS.mono ?_
  rintro e w6 ⟨rfl, c6, s6, o6⟩
  have X6 := Lib.hid (And.intro (X5.out.1.kn s6) (And.intro (X5.out.2.1.keep s6 (fun h => h)) (And.intro (X5.out.2.2.1.trans s6.ofNo) o6)))
  clear HS s6 o6
  go_wp2_with fail
  go_loopw [31] (fun vi wr => ∃ (i : Nat) (cr : Col), i ≤ 4 ∧ vi = .int .i64 i ∧ IsWr cr k1 k2 wr p 65536 (encH0 h ++ ((hashL h).take i).flatten, 0) ∧ At cr wr b1 0 B ∧ Step (Two k1 k2) c w cr wr ∧ Ok cr wr) (fun vi _ => 4 - (intOf vi).toNat)
  case atStart => exact ⟨0, c6, by omega, rfl, by simpa [encH0] using X6.out.1, X6.out.2.1, X6.out.2.2.1, X6.out.2.2.2⟩
  case round =>
    obtain ⟨i, cr, hi4, rfl, iw, ah, st, ok⟩ := hrel
    have D := HA.out.2.2.1 ah
    have hlen : ((encH0 h ++ ((hashL h).take i).flatten).length : Int) + 32 ≤ 65536 := by
      have w1 := HK.out.1
      have : ((hashL h).take i).flatten.length ≤ 128 := by
        have e := flat_le (hashL h) i
        simp only [hashL, List.flatten_cons, List.flatten_nil, List.length_append, List.length_nil, w1.prev, w1.vals, w1.next, w1.app] at e
        exact e
      have := HK.out.2.2.2.2
      simp only [List.length_append]; omega
    rcases (by omega : i = 0 ∨ i = 1 ∨ i = 2 ∨ i = 3 ∨ i = 4) with rfl | rfl | rfl | rfl | rfl
    · have HH := hash_any ok iw k10 k20 k21 (by omega) (by dsimp only; omega) h.prev HK.out.1.prev
      rw [putS_fits (by rw [HK.out.1.prev]; exact hlen)] at HH
      have hbl : (bC h.prev).length = 32 := by rw [bC_len, HK.out.1.prev]
      have HC := D.1
      obtain ⟨V, hV⟩ : ∃ V, bC h.prev = V := ⟨_, rfl⟩
      rw [hV] at HH hbl HC
      have hix := fun W => (index4 ⟨b1, 3, none⟩ ⟨b1, 35, none⟩ ⟨b1, 67, none⟩ ⟨b1, 99, none⟩ W).1
      have HX := Lib.hid (And.intro ah (And.intro st (And.intro HC (show (Tryz.prog.info? 51).map (·.size) = some V.length by rw [info_hash, hbl]))))
      clear iw ah st ok D HC hbl hV hlen
      go_wp2_with (refine wpList_load_mid rfl 51 _ rfl b1 3 rfl V _ HX.out.2.2.1 Tryz.underlying51 rfl HX.out.2.2.2 ?_)
      with_reducible refine HH.mono ?_
      rintro e w7 ⟨rfl, c7, i7, s7, o7⟩
      have X7 := Lib.hid (And.intro i7 (And.intro s7 o7))
      clear HH i7 s7 o7
      go_wp2_with fail
      go_roundw
      case rel =>
        obtain ⟨i7, s7, o7⟩ := X7.out
        exact ⟨1, c7, by omega, by first | rfl | go_num, by simpa [hashL] using i7, HX.out.1.keep s7 n0, HX.out.2.1.trans s7, o7⟩
      case measure => simp [intOf]
    · have HH := hash_any ok iw k10 k20 k21 (by omega) (by dsimp only; omega) h.vals HK.out.1.vals
      rw [putS_fits (by rw [HK.out.1.vals]; exact hlen)] at HH
      have hbl : (bC h.vals).length = 32 := by rw [bC_len, HK.out.1.vals]
      have HC := D.2.1
      obtain ⟨V, hV⟩ : ∃ V, bC h.vals = V := ⟨_, rfl⟩
      rw [hV] at HH hbl HC
      have hix := fun W => (index4 ⟨b1, 3, none⟩ ⟨b1, 35, none⟩ ⟨b1, 67, none⟩ ⟨b1, 99, none⟩ W).2.1
      have HX := Lib.hid (And.intro ah (And.intro st (And.intro HC (show (Tryz.prog.info? 51).map (·.size) = some V.length by rw [info_hash, hbl]))))
      clear iw ah st ok D HC hbl hV hlen
      go_wp2_with (refine wpList_load_mid rfl 51 _ rfl b1 35 rfl V _ HX.out.2.2.1 Tryz.underlying51 rfl HX.out.2.2.2 ?_)
      with_reducible refine HH.mono ?_
      rintro e w7 ⟨rfl, c7, i7, s7, o7⟩
      have X7 := Lib.hid (And.intro i7 (And.intro s7 o7))
      clear HH i7 s7 o7
      go_wp2_with fail
      go_roundw
      case rel =>
        obtain ⟨i7, s7, o7⟩ := X7.out
        exact ⟨2, c7, by omega, by first | rfl | go_num, by simpa [hashL] using i7, HX.out.1.keep s7 n0, HX.out.2.1.trans s7, o7⟩
      case measure => simp [intOf]
    · have HH := hash_any ok iw k10 k20 k21 (by omega) (by dsimp only; omega) h.next HK.out.1.next
      rw [putS_fits (by rw [HK.out.1.next]; exact hlen)] at HH
      have hbl : (bC h.next).length = 32 := by rw [bC_len, HK.out.1.next]
      have HC := D.2.2.1
      obtain ⟨V, hV⟩ : ∃ V, bC h.next = V := ⟨_, rfl⟩
      rw [hV] at HH hbl HC
      have hix := fun W => (index4 ⟨b1, 3, none⟩ ⟨b1, 35, none⟩ ⟨b1, 67, none⟩ ⟨b1, 99, none⟩ W).2.2.1
      have HX := Lib.hid (And.intro ah (And.intro st (And.intro HC (show (Tryz.prog.info? 51).map (·.size) = some V.length by rw [info_hash, hbl]))))
      clear iw ah st ok D HC hbl hV hlen
      go_wp2_with (refine wpList_load_mid rfl 51 _ rfl b1 67 rfl V _ HX.out.2.2.1 Tryz.underlying51 rfl HX.out.2.2.2 ?_)
      with_reducible refine HH.mono ?_
      rintro e w7 ⟨rfl, c7, i7, s7, o7⟩
      have X7 := Lib.hid (And.intro i7 (And.intro s7 o7))
      clear HH i7 s7 o7
      go_wp2_with fail
      go_roundw
      case rel =>
        obtain ⟨i7, s7, o7⟩ := X7.out
        exact ⟨3, c7, by omega, by first | rfl | go_num, by simpa [hashL] using i7, HX.out.1.keep s7 n0, HX.out.2.1.trans s7, o7⟩
      case measure => simp [intOf]
    · have HH := hash_any ok iw k10 k20 k21 (by omega) (by dsimp only; omega) h.app HK.out.1.app
      rw [putS_fits (by rw [HK.out.1.app]; exact hlen)] at HH
      have hbl : (bC h.app).length = 32 := by rw [bC_len, HK.out.1.app]
      have HC := D.2.2.2
      obtain ⟨V, hV⟩ : ∃ V, bC h.app = V := ⟨_, rfl⟩
      rw [hV] at HH hbl HC
      have hix := fun W => (index4 ⟨b1, 3, none⟩ ⟨b1, 35, none⟩ ⟨b1, 67, none⟩ ⟨b1, 99, none⟩ W).2.2.2
      have HX := Lib.hid (And.intro ah (And.intro st (And.intro HC (show (Tryz.prog.info? 51).map (·.size) = some V.length by rw [info_hash, hbl]))))
      clear iw ah st ok D HC hbl hV hlen
      go_wp2_with (refine wpList_load_mid rfl 51 _ rfl b1 99 rfl V _ HX.out.2.2.1 Tryz.underlying51 rfl HX.out.2.2.2 ?_)
      with_reducible refine HH.mono ?_
      rintro e w7 ⟨rfl, c7, i7, s7, o7⟩
      have X7 := Lib.hid (And.intro i7 (And.intro s7 o7))
      clear HH i7 s7 o7
      go_wp2_with fail
      go_roundw
      case rel =>
        obtain ⟨i7, s7, o7⟩ := X7.out
        exact ⟨4, c7, by omega, by first | rfl | go_num, by simpa [hashL] using i7, HX.out.1.keep s7 n0, HX.out.2.1.trans s7, o7⟩
      case measure => simp [intOf]
    · rw [encH_eq] at iw
      have hle : (encH h).length ≤ 1000000000 := by
        rw [← encH_eq]
        have := hlen
        omega
      have DN := done_any ok iw rfl hle kx
      have X8 := Lib.hid st
      clear iw ah st ok D hlen
      go_wp2_with fail
      with_reducible refine DN.mono ?_
      rintro e w7 ⟨v, rfl, c7, sl7, s7, o7⟩
      have X7 := Lib.hid (And.intro sl7 (And.intro s7 o7))
      clear DN sl7 s7 o7
      go_wp2_with fail
      go_ret2
      obtain ⟨sl7, s7, o7⟩ := X7.out
      exact ⟨v, rfl, c7, sl7, (X8.out.trans s7.ofNo).own2 HA.out.2.2.2.2.1 HA.out.2.2.2.2.2, o7⟩
end
end Go.Proofs.YtgcobbapaaihiaaGreat

set_option linter.unusedVariables false
set_option linter.unusedSimpArgs false
namespace Go.Proofs.YtgcobbapaaihiaaGreat
open Go.RowKit

/-- Words as cells. -/
def u32C (l : List Nat) : List Value := l.map fun (x : Nat) => Value.int .u32 (x : Int)
def Words (l : List Nat) (n : Nat) : Prop := l.length = n ∧ ∀ x ∈ l, x < 4294967296
theorem u32C_len (l : List Nat) : (u32C l).length = l.length := by simp [u32C]
theorem u32C_one (l : List Nat) : ∀ v ∈ u32C l, v.oneCell' = true := by
  intro v hv; simp [u32C] at hv; obtain ⟨x, _, rfl⟩ := hv; rfl

def beginL : List Nat := [0x6a09e667, 0xbb67ae85, 0x3c6ef372, 0xa54ff53a, 0x510e527f, 0x9b05688c, 0x1f83d9ab, 0x5be0cd19]
theorem info_words : (Tryz.prog.info? 271).map (·.size) = some 8 := by kernel_rfl

section
variable {c : Col} {w : World}

set_option maxRecDepth 100000 in
theorem begin_any (hok : Ok c w) :
    Calls Tryz.prog 202 #[] w fun r w' => r = .returned (.agg (u32C beginL).toArray) ∧ ∃ c', Step No c w c' w' ∧ Ok c' w' := by
  obtain ⟨a0, o0, s0⟩ := newAt hok (u32C beginL) 271 0
  have HX := Lib.hid (And.intro a0 (And.intro s0 o0))
  have hi := Lib.hid info_words
  clear a0 o0 s0 hok
  go_enter Tryz.func202, Tryz.ntmps202
  go_wp2_with fail
  exact bodyPost_ret (results_cell_mid rfl _ _ w.heap.size 0 (u32C beginL) _ rfl HX.out.1.cells Tryz.underlying271 rfl hi.out) rfl ⟨rfl, _, HX.out.2⟩
end
end Go.Proofs.YtgcobbapaaihiaaGreat

set_option linter.unusedVariables false
set_option linter.unusedSimpArgs false
namespace Go.Proofs.YtgcobbapaaihiaaGreat
open Go.RowKit

theorem rot_any (x : Nat) (hx : x < 4294967296) (k : Int) (hk : k = -16 ∨ k = -12 ∨ k = -8 ∨ k = -7) (w : World) :
    Calls Tryz.prog 219 #[.int .u32 x, .int .i64 k] w fun r w' => (∃ y : Nat, y < 4294967296 ∧ r = .returned (.int .u32 y)) ∧ w' = w := by
  rcases hk with rfl | rfl | rfl | rfl
  · have hb : bits BinOp.and IntKind.u64 (IntKind.u64.wrap (-16)) 31 = 16 := by kernel_rfl
    go_enter Tryz.func219, Tryz.ntmps219
    go_wp2
    go_ret
    have h := u32_or_nat (x * 65536 % 4294967296) (x / 65536) (by omega) (by omega)
    refine ⟨⟨_, Nat.or_lt_two_pow (n := 32) (x := x * 65536 % 4294967296) (y := x / 65536) (by omega) (by omega), ?_⟩, rfl⟩
    rw [← h]
    rfl
  · have hb : bits BinOp.and IntKind.u64 (IntKind.u64.wrap (-12)) 31 = 20 := by kernel_rfl
    go_enter Tryz.func219, Tryz.ntmps219
    go_wp2
    go_ret
    have h := u32_or_nat (x * 1048576 % 4294967296) (x / 4096) (by omega) (by omega)
    refine ⟨⟨_, Nat.or_lt_two_pow (n := 32) (x := x * 1048576 % 4294967296) (y := x / 4096) (by omega) (by omega), ?_⟩, rfl⟩
    rw [← h]
    rfl
  · have hb : bits BinOp.and IntKind.u64 (IntKind.u64.wrap (-8)) 31 = 24 := by kernel_rfl
    go_enter Tryz.func219, Tryz.ntmps219
    go_wp2
    go_ret
    have h := u32_or_nat (x * 16777216 % 4294967296) (x / 256) (by omega) (by omega)
    refine ⟨⟨_, Nat.or_lt_two_pow (n := 32) (x := x * 16777216 % 4294967296) (y := x / 256) (by omega) (by omega), ?_⟩, rfl⟩
    rw [← h]
    rfl
  · have hb : bits BinOp.and IntKind.u64 (IntKind.u64.wrap (-7)) 31 = 25 := by kernel_rfl
    go_enter Tryz.func219, Tryz.ntmps219
    go_wp2
    go_ret
    have h := u32_or_nat (x * 33554432 % 4294967296) (x / 128) (by omega) (by omega)
    refine ⟨⟨_, Nat.or_lt_two_pow (n := 32) (x := x * 33554432 % 4294967296) (y := x / 128) (by omega) (by omega), ?_⟩, rfl⟩
    rw [← h]
    rfl
end Go.Proofs.YtgcobbapaaihiaaGreat
