/- ServerTurns, part 13: lemmas, each with its own conditions. -/
import Derived.Test.YtgcobbapaaihiaaGreatSt01
import Derived.Test.YtgcobbapaaihiaaGreatSt02
import Derived.Test.YtgcobbapaaihiaaGreatSt05
import Derived.Test.YtgcobbapaaihiaaGreatSt07
import Derived.Test.YtgcobbapaaihiaaGreatSt11
import Derived.Test.YtgcobbapaaihiaaGreatSt12
set_option linter.unusedVariables false
set_option linter.unusedSimpArgs false
namespace Go.Proofs.YtgcobbapaaihiaaGreat
open Go.RowKit

/-- A server. -/
structure Srv where
  chain : List Blo
  other : List Blo
  moods : List Int
  delay : Int
  slow : Int

/-- A server reads: all that it leads to is of colour k. -/
structure Srv.At (s : Srv) (c : Col) (k : Nat) (w : World) (vc vo vm : Value) : Prop where
  chain : Sl TBlo c k k w vc s.chain
  other : Sl TBlo c k k w vo s.other
  moods : Sl (TInt .i64) c k k w vm s.moods
  nchain : s.chain.length ≤ 1000000000
  nother : s.other.length ≤ 1000000000
  nmoods : s.moods.length ≤ 1000000000
  delay : IntKind.i64.has s.delay
  slow : IntKind.i64.has s.slow

theorem Srv.At.keep {s : Srv} {K : Nat → Prop} {c c' : Col} {k : Nat} {w w' : World} {vc vo vm : Value} (h : s.At c k w vc vo vm) (hs : Step K c w c' w') (hk : ¬ K k) : s.At c' k w' vc vo vm :=
  ⟨h.chain.keep hs hk hk, h.other.keep hs hk hk, h.moods.keep hs hk hk, h.nchain, h.nother, h.nmoods, h.delay, h.slow⟩
theorem Srv.At.kn {s : Srv} {c c' : Col} {k : Nat} {w w' : World} {vc vo vm : Value} (h : s.At c k w vc vo vm) (hs : Step No c w c' w') : s.At c' k w' vc vo vm := h.keep hs (fun h => h)

def badW (x : Int) : Bool := decide (x < 0) || decide (1048576 < x)
def badM (x : Int) : Bool := decide (x ≤ 0) || decide (10 ≤ x)
/-- Why a server may not be. -/
def checkS (s : Srv) : Int := if 64 < s.moods.length then 4 else if badW s.delay = true then 3 else if badW s.slow = true then 3 else if s.moods.any badM = true then 3 else 0

theorem intI : (Tryz.prog.info? 3).map (·.size) = some 1 := by kernel_rfl
theorem index2 (a b : Int) (W : World) :
    (Instr.index 84 (.agg #[.int .i64 a, .int .i64 b]) (.int .i64 0)).run Tryz.prog W = .ok (.int .i64 a) W ∧
    (Instr.index 84 (.agg #[.int .i64 a, .int .i64 b]) (.int .i64 1)).run Tryz.prog W = .ok (.int .i64 b) W := by
  have hs : (sizeOf 3).run Tryz.prog W = .ok 1 W := by
    cases hq : Tryz.prog.info? 3 with
    | none => have := intI; rw [hq] at this; cases this
    | some i =>
      have : i.size = 1 := by have := intI; rw [hq] at this; simpa using this
      simp [sizeOf, typeInfo, hq, this]
  have hu := run_underlying Tryz.underlying84 W
  have hu2 := run_underlying Tryz.underlying3 W
  refine ⟨?_, ?_⟩ <;> simp [Instr.index, asIntOf, hu, hu2, part, isAgg, hs, Value.cells]

section
variable {c : Col} {w : World}

set_option maxRecDepth 100000 in
set_option maxHeartbeats 1600000 in
theorem scheck_any (hok : Ok c w) {s : Srv} {k : Nat} {vc vo vm : Value} (hs : s.At c k w vc vo vm) :
    Calls Tryz.prog 13 #[.agg #[vc, vo, vm, .int .i64 s.delay, .int .i64 s.slow]] w fun r w' => r = .returned (.int .i64 (checkS s)) ∧ ∃ c', Step No c w c' w' ∧ Ok c' w' := by
  obtain ⟨vca, vcc, rfl, _⟩ := hs.chain.form
  obtain ⟨voa, voc, rfl, _⟩ := hs.other.form
  obtain ⟨vma, vmc, rfl, _⟩ := hs.moods.form
  have s0 : Step No c w c (w.alloc (.cells #[.slice vca s.chain.length vcc, .slice voa s.other.length voc, .slice vma s.moods.length vmc, .int .i64 s.delay, .int .i64 s.slow] 25)) := Step.refl.alloc _
  have o0 := hok.alloc (.cells #[.slice vca s.chain.length vcc, .slice voa s.other.length voc, .slice vma s.moods.length vmc, .int .i64 s.delay, .int .i64 s.slow] 25)
  have sm := hs.moods.kn s0
  obtain ⟨ch, ot, l, D, S⟩ := s
  dsimp only at *
  obtain ⟨cl, hcl⟩ : ∃ n, ch.length = n := ⟨_, rfl⟩
  obtain ⟨ol, hol⟩ : ∃ n, ot.length = n := ⟨_, rfl⟩
  rw [hcl, hol] at s0 o0 sm ⊢
  have HS := Lib.hid (And.intro sm (And.intro s0 (And.intro o0 hs.nmoods)))
  clear sm s0 o0 hs hok
  by_cases h64 : 64 < l.length
  · have hc : checkS ⟨ch, ot, l, D, S⟩ = 4 := by unfold checkS; rw [if_pos h64]
    rw [hc]
    have h64' : (64 : Int) < (l.length : Int) := by omega
    clear hc hcl hol
    go_enter Tryz.func13, Tryz.ntmps13
    go_wp2_with fail
    go_ret
    exact ⟨rfl, c, HS.out.2.1, HS.out.2.2.1⟩
  have h64' : ¬ (64 : Int) < (l.length : Int) := by omega
  have hlen : l.length ≤ 64 := by omega
  by_cases hd : badW D = true
  · have hc : checkS ⟨ch, ot, l, D, S⟩ = 3 := by unfold checkS; rw [if_neg h64, if_pos hd]
    rw [hc]
    have hix := fun W => (index2 D S W).1
    simp only [badW, Bool.or_eq_true, decide_eq_true_eq] at hd
    clear hc hcl hol
    rcases (by omega : D < 0 ∨ (¬ D < 0 ∧ 1048576 < D)) with h1 | ⟨h1, h2⟩
    · go_enter Tryz.func13, Tryz.ntmps13
      go_wp2_with fail
      refine wp_loop_once ?_
      go_wp2_with fail
      go_ret
      exact ⟨rfl, c, HS.out.2.1, HS.out.2.2.1⟩
    · go_enter Tryz.func13, Tryz.ntmps13
      go_wp2_with fail
      refine wp_loop_once ?_
      go_wp2_with fail
      go_ret
      exact ⟨rfl, c, HS.out.2.1, HS.out.2.2.1⟩
  have hd0 : ¬ D < 0 ∧ ¬ 1048576 < D := by simp only [badW, Bool.or_eq_true, decide_eq_true_eq, not_or] at hd; exact hd
  obtain ⟨hd1, hd2⟩ := hd0
  have hix0 := fun W => (index2 D S W).1
  have hix1 := fun W => (index2 D S W).2
  obtain ⟨W0, hW0⟩ : ∃ W, w.alloc (.cells #[.slice vca cl vcc, .slice voa ol voc, .slice vma l.length vmc, .int .i64 D, .int .i64 S] 25) = W := ⟨_, rfl⟩
  have y2 : W0.cell? ⟨w.heap.size, 2, none⟩ = some (.slice vma l.length vmc) := by rw [← hW0]; exact (At.new0 (c := fun _ => 0) (Ok.zero w) [.slice vca cl vcc, .slice voa ol voc, .slice vma l.length vmc, .int .i64 D, .int .i64 S] 25).get (i := 2) rfl
  rw [hW0] at HS
  have hE : checkS ⟨ch, ot, l, D, S⟩ = if badW S = true then 3 else if l.any badM = true then 3 else 0 := by unfold checkS; rw [if_neg h64, if_neg hd]
  have HE := Lib.hid hE
  obtain ⟨bx, hbx⟩ : ∃ b, w.heap.size = b := ⟨_, rfl⟩
  have y3 : W0.cell? ⟨w.heap.size, 3, none⟩ = some (.int .i64 D) := by rw [← hW0]; exact (At.new0 (c := fun _ => 0) (Ok.zero w) [.slice vca cl vcc, .slice voa ol voc, .slice vma l.length vmc, .int .i64 D, .int .i64 S] 25).get (i := 3) rfl
  have y4 : W0.cell? ⟨w.heap.size, 4, none⟩ = some (.int .i64 S) := by rw [← hW0]; exact (At.new0 (c := fun _ => 0) (Ok.zero w) [.slice vca cl vcc, .slice voa ol voc, .slice vma l.length vmc, .int .i64 D, .int .i64 S] 25).get (i := 4) rfl
  rw [hbx] at y2 y3 y4
  obtain ⟨R, hR⟩ : ∃ R, checkS ⟨ch, ot, l, D, S⟩ = R := ⟨_, rfl⟩
  rw [hR] at HE ⊢
  clear hd hE hR hcl hol h64
  go_enter Tryz.func13, Tryz.ntmps13
  go_wp2_with fail
  (try rw [hW0])
  (try rw [hbx])
  clear hW0
  go_loopw [16] (fun vi wr => ∃ i : Nat, i ≤ 2 ∧ vi = .int .i64 i ∧ W0 = wr ∧ (2 ≤ i → badW S = false)) (fun vi _ => 2 - (intOf vi).toNat)
  case atStart => exact ⟨0, by omega, rfl, rfl, by omega⟩
  case round =>
    obtain ⟨i, hi, rfl, rfl, hSi⟩ := hrel
    rcases (by omega : i = 0 ∨ i = 1 ∨ i = 2) with rfl | rfl | rfl
    · clear hSi
      go_wp2_with fail
      go_roundw
      case rel => first | exact ⟨1, by omega, by first | rfl | go_num, rfl, by omega⟩ | exact ⟨1, by omega, by first | rfl | go_num, trivial, by omega⟩
      case measure => simp [intOf]
    · clear hSi
      by_cases hs1 : S < 0
      · have hb : badW S = true := by simp [badW, hs1]
        have HR := Lib.hid (show R = 3 by have := HE.out; rw [if_pos hb] at this; exact this)
        clear hb
        go_wp2_with fail
        go_ret
        exact ⟨by rw [HR.out]; rfl, c, HS.out.2.1, HS.out.2.2.1⟩
      · by_cases hs2 : 1048576 < S
        · have hb : badW S = true := by simp [badW, hs2]
          have HR := Lib.hid (show R = 3 by have := HE.out; rw [if_pos hb] at this; exact this)
          clear hb
          go_wp2_with fail
          go_ret
          exact ⟨by rw [HR.out]; rfl, c, HS.out.2.1, HS.out.2.2.1⟩
        · have HB := Lib.hid (show badW S = false by simp [badW]; omega)
          go_wp2_with fail
          go_roundw
          case rel => first | exact ⟨2, by omega, by first | rfl | go_num, rfl, fun _ => HB.out⟩ | exact ⟨2, by omega, by first | rfl | go_num, trivial, fun _ => HB.out⟩
          case measure => simp [intOf]
    · have HB := Lib.hid (hSi (by omega))
      clear hSi
      go_wp2_with fail
      go_loopw [29] (fun vi wr => ∃ i : Nat, i ≤ l.length ∧ vi = .int .i64 i ∧ W0 = wr ∧ l.any badM = (l.drop i).any badM) (fun vi _ => l.length - (intOf vi).toNat)
      case atStart => exact ⟨0, by omega, rfl, rfl, by rw [List.drop_zero]⟩
      case round =>
        obtain ⟨i, hi, rfl, rfl, hany⟩ := hrel
        by_cases hlt : i < l.length
        · obtain ⟨m, hm⟩ : ∃ m, l[i]? = some m := ⟨l[i], by simp [hlt]⟩
          have hdr : l.drop i = m :: l.drop (i + 1) := by rw [List.drop_eq_getElem_cons hlt]; rw [List.getElem?_eq_getElem hlt] at hm; injection hm with hm; rw [hm]
          obtain ⟨g, off, cap, e, hcap, hcm⟩ := HS.out.1.some (by omega)
          injection e with e1 _ e2
          subst e1 e2
          obtain ⟨vs, ⟨rfl, hmh⟩, hcs⟩ := HS.out.1.at hm
          have ym := hcs.get 0 rfl
          simp only [TInt, Nat.mul_one, Nat.add_zero] at ym
          have hlt' : (i : Int) < (l.length : Int) := by omega
          have hi64 : (i : Int) < 64 := by omega
          have HA := Lib.hid (show l.any badM = (badM m || (l.drop (i + 1)).any badM) by rw [hany, hdr, List.any_cons])
          clear hcs hany hdr hm hmh
          by_cases hm0 : m ≤ 0
          · have hb : badM m = true := by simp [badM, hm0]
            have HR := Lib.hid (show R = 3 by have := HE.out; rw [HB.out, HA.out, hb] at this; simpa using this)
            clear hb
            go_wp2_with fail
            go_ret
            exact ⟨by rw [HR.out]; rfl, c, HS.out.2.1, HS.out.2.2.1⟩
          · by_cases hm10 : 10 ≤ m
            · have hb : badM m = true := by simp [badM, hm10]
              have HR := Lib.hid (show R = 3 by have := HE.out; rw [HB.out, HA.out, hb] at this; simpa using this)
              clear hb
              go_wp2_with fail
              go_ret
              exact ⟨by rw [HR.out]; rfl, c, HS.out.2.1, HS.out.2.2.1⟩
            · have HM := Lib.hid (show badM m = false by simp [badM]; omega)
              go_wp2_with fail
              go_roundw
              case rel => first | exact ⟨i + 1, by omega, by go_num, rfl, by have := HA.out; rw [HM.out, Bool.false_or] at this; exact this⟩ | exact ⟨i + 1, by omega, by go_num, trivial, by have := HA.out; rw [HM.out, Bool.false_or] at this; exact this⟩
              case measure => simp [intOf]; omega
        · have hil : i = l.length := by omega
          subst hil
          rw [List.drop_length] at hany
          have HR := Lib.hid (show R = 0 by have := HE.out; rw [HB.out, hany] at this; simpa using this)
          clear hany
          go_wp2_with fail
          go_ret
          exact ⟨by rw [HR.out]; rfl, c, HS.out.2.1, HS.out.2.2.1⟩
end
end Go.Proofs.YtgcobbapaaihiaaGreat

set_option linter.unusedVariables false
set_option linter.unusedSimpArgs false
namespace Go.Proofs.YtgcobbapaaihiaaGreat
open Go.RowKit

/-- A server's mood. -/
def moodS (s : Srv) (nth : Int) : Int := if checkS s ≠ 0 ∨ nth < 0 then 0 else if s.moods.length = 0 then 1 else s.moods.getD (nth % s.moods.length).toNat 0

def srvC (s : Srv) (vc vo vm : Value) : List Value := [vc, vo, vm, .int .i64 s.delay, .int .i64 s.slow]

section
variable {c : Col} {w : World}

set_option maxRecDepth 100000 in
set_option maxHeartbeats 1600000 in
theorem mood_any (hok : Ok c w) {s : Srv} {k : Nat} {vc vo vm : Value} (hs : s.At c k w vc vo vm) (nth : Int) :
    Calls Tryz.prog 15 #[.agg #[vc, vo, vm, .int .i64 s.delay, .int .i64 s.slow], .int .i64 nth] w fun r w' => r = .returned (.int .i64 (moodS s nth)) ∧ ∃ c', Step No c w c' w' ∧ Ok c' w' := by
  obtain ⟨vca, vcc, rfl, _⟩ := hs.chain.form
  obtain ⟨voa, voc, rfl, _⟩ := hs.other.form
  obtain ⟨vma, vmc, rfl, _⟩ := hs.moods.form
  have a0 := At.new0 hok [.slice vca s.chain.length vcc, .slice voa s.other.length voc, .slice vma s.moods.length vmc, .int .i64 s.delay, .int .i64 s.slow] 25
  have s0 : Step No c w c (w.alloc (.cells #[.slice vca s.chain.length vcc, .slice voa s.other.length voc, .slice vma s.moods.length vmc, .int .i64 s.delay, .int .i64 s.slow] 25)) := Step.refl.alloc _
  have o0 := hok.alloc (.cells #[.slice vca s.chain.length vcc, .slice voa s.other.length voc, .slice vma s.moods.length vmc, .int .i64 s.delay, .int .i64 s.slow] 25)
  have CK := scheck_any o0 (hs.kn s0)
  have hnm := hs.nmoods
  have HS := Lib.hid (And.intro (hs.moods.kn s0) (And.intro s0 a0))
  obtain ⟨l, hl⟩ : ∃ l, s.moods = l := ⟨_, rfl⟩
  obtain ⟨bx, hbx⟩ : ∃ b, w.heap.size = b := ⟨_, rfl⟩
  rw [hl] at HS CK hnm ⊢
  rw [hbx] at HS
  obtain ⟨W0, hW0⟩ : ∃ W, w.alloc (.cells #[.slice vca s.chain.length vcc, .slice voa s.other.length voc, .slice vma l.length vmc, .int .i64 s.delay, .int .i64 s.slow] 25) = W := ⟨_, rfl⟩
  rw [hW0] at HS CK
  obtain ⟨R, hR⟩ : ∃ R, moodS s nth = R := ⟨_, rfl⟩
  obtain ⟨E, hE⟩ : ∃ E, checkS s = E := ⟨_, rfl⟩
  have HR := Lib.hid (show R = if E ≠ 0 ∨ nth < 0 then 0 else if l.length = 0 then 1 else l.getD (nth % l.length).toNat 0 by rw [← hR, moodS, hE, hl])
  rw [hR]
  rw [hE] at CK
  obtain ⟨cl, hcl⟩ : ∃ n, s.chain.length = n := ⟨_, rfl⟩
  obtain ⟨ol, hol⟩ : ∃ n, s.other.length = n := ⟨_, rfl⟩
  obtain ⟨D, hD⟩ : ∃ n, s.delay = n := ⟨_, rfl⟩
  obtain ⟨S, hS⟩ : ∃ n, s.slow = n := ⟨_, rfl⟩
  rw [hcl, hol, hD, hS] at HS CK hW0 ⊢
  have y0 := HS.out.2.2.get (i := 0) rfl
  have y1 := HS.out.2.2.get (i := 1) rfl
  have y2 := HS.out.2.2.get (i := 2) rfl
  have y3 := HS.out.2.2.get (i := 3) rfl
  have y4 := HS.out.2.2.get (i := 4) rfl
  clear a0 s0 o0 hs hok hl hR hE hcl hol hD hS
  by_cases hE0 : E = 0
  · subst hE0
    by_cases hn : nth < 0
    · have HR2 := Lib.hid (show R = 0 by have := HR.out; rw [if_pos (.inr hn)] at this; exact this)
      go_enter Tryz.func15, Tryz.ntmps15
      go_wp2_with fail
      (try rw [hW0])
      with_reducible refine CK.mono ?_
      rintro e w1 ⟨rfl, c1, s1, o1⟩
      have X := Lib.hid (And.intro (HS.out.2.1.trans s1) o1)
      clear CK s1 o1
      go_wp2_with fail
      go_ret
      exact ⟨by rw [HR2.out]; rfl, c1, X.out⟩
    · by_cases hl0 : l.length = 0
      · have HR2 := Lib.hid (show R = 1 by have := HR.out; rw [if_neg (by simp; omega), if_pos hl0] at this; exact this)
        have HL0 := Lib.hid hl0
        clear hl0
        go_enter Tryz.func15, Tryz.ntmps15
        go_wp2_with fail
        (try rw [hW0])
        with_reducible refine CK.mono ?_
        rintro e w1 ⟨rfl, c1, s1, o1⟩
        have z2 := (HS.out.2.2.keep s1 (fun h => h)).get (i := 2) rfl
        have X := Lib.hid (And.intro (HS.out.2.1.trans s1) o1)
        have hl0' : (l.length : Int) = 0 := by have := HL0.out; omega
        clear CK s1 o1
        go_wp2_with fail
        go_ret
        exact ⟨by rw [HR2.out]; rfl, c1, X.out⟩
      · obtain ⟨j, hj⟩ : ∃ j, (nth % (l.length : Int)).toNat = j := ⟨_, rfl⟩
        have hmod := Int.emod_nonneg nth (show (l.length : Int) ≠ 0 by omega)
        have hmod2 := Int.emod_lt_of_pos nth (show (0 : Int) < (l.length : Int) by omega)
        have hjl : j < l.length := by omega
        have hje : Int.tmod nth (l.length : Int) = (j : Int) := by rw [Int.tmod_eq_emod_of_nonneg (by omega)]; omega
        obtain ⟨m, hm⟩ : ∃ m, l[j]? = some m := ⟨l[j], by simp [hjl]⟩
        have HR2 := Lib.hid (show R = m by have := HR.out; rw [if_neg (by simp; omega), if_neg hl0, hj, List.getD, hm] at this; exact this)
        obtain ⟨g, off, cap, e, hcap, hcm⟩ := HS.out.1.some (by omega)
        injection e with e1 _ e2
        subst e1 e2
        have hl0' : ¬ (l.length : Int) = 0 := by omega
        have hj0 : (0 : Int) ≤ (j : Int) := by omega
        have hj1 : (j : Int) < (l.length : Int) := by omega
        clear hj hmod hmod2
        go_enter Tryz.func15, Tryz.ntmps15
        go_wp2_with fail
        (try rw [hW0])
        with_reducible refine CK.mono ?_
        rintro e w1 ⟨rfl, c1, s1, o1⟩
        have z2 := (HS.out.2.2.keep s1 (fun h => h)).get (i := 2) rfl
        obtain ⟨vs, ⟨rfl, hmh⟩, hcs⟩ := (HS.out.1.kn s1).at hm
        have ym := hcs.get 0 rfl
        simp only [TInt, Nat.mul_one, Nat.add_zero] at ym
        have KK : (fun W : World => W.cell? ⟨bx, 2, none⟩ = some (.slice (some ⟨g, off, none⟩) l.length vmc) ∧ W.cell? ⟨g, off + j, none⟩ = some (.int .i64 m)) w1.drew := ⟨z2, ym⟩
        have X := Lib.hid (And.intro ((HS.out.2.1.trans s1).drewN 1) (o1.drewN 1))
        clear CK s1 o1 hcs hm
        go_wp2_with fail
        refine region_planM (fun W => W.cell? ⟨bx, 2, none⟩ = some (.slice (some ⟨g, off, none⟩) l.length vmc) ∧ W.cell? ⟨g, off + j, none⟩ = some (.int .i64 m)) (fun i => !([9] : List Nat).contains i) (by kernel_rfl) ?_
        refine tk2 0 _ 18 rfl rfl KK ?_
        refine tk2 1 _ 19 rfl rfl KK ?_
        refine tk2 2 _ 20 rfl rfl KK ?_
        refine tk2 3 _ 21 rfl rfl KK ?_
        refine tk2 4 _ 22 rfl rfl KK ?_
        refine tk2 5 _ 23 rfl rfl KK ?_
        refine tk2 6 _ 24 rfl rfl KK ?_
        refine tk2 7 _ 25 rfl rfl KK ?_
        refine tk2 8 _ 26 rfl rfl KK ?_
        refine wpAnyM.one (i := 9) (by kernel_rfl) rfl (fun KQ hK => ?_)
        go_simp
        refine hK.out _ _ (fun h => absurd h (by decide)) ?_
        clear hK KQ
        (try simp only [Act.put, List.setIfInBounds_toArray, List.set_cons_zero, List.set_cons_succ])
        refine wpAnyM.done (by kernel_rfl) ?_ _
        go_wp2_with fail
        go_ret
        exact ⟨by rw [HR2.out]; rfl, c1, X.out⟩
  · have HR2 := Lib.hid (show R = 0 by have := HR.out; rw [if_pos (.inl hE0)] at this; exact this)
    have hE2 : (E != 0) = true := by rw [bne_iff_ne]; exact hE0
    go_enter Tryz.func15, Tryz.ntmps15
    go_wp2_with fail
    (try rw [hW0])
    with_reducible refine CK.mono ?_
    rintro e w1 ⟨rfl, c1, s1, o1⟩
    have X := Lib.hid (And.intro (HS.out.2.1.trans s1) o1)
    clear CK s1 o1
    go_wp2_with fail
    go_ret
    exact ⟨by rw [HR2.out]; rfl, c1, X.out⟩
end
end Go.Proofs.YtgcobbapaaihiaaGreat

set_option linter.unusedVariables false
set_option linter.unusedSimpArgs false
namespace Go.Proofs.YtgcobbapaaihiaaGreat
open Go.RowKit

/-- Which fault a mood's answer has. -/
def faultS (m : Int) : Int := if m = 4 then 1 else if m = 5 then 3 else if m = 6 then 4 else if m = 7 then 5 else if m = 9 then 2 else 0

theorem index10 (a0 a1 a2 a3 a4 a5 a6 a7 a8 a9 : Int) (i : Nat) (hi : i < 10) (W : World) :
    (Instr.index 86 (.agg #[.int .i64 a0, .int .i64 a1, .int .i64 a2, .int .i64 a3, .int .i64 a4, .int .i64 a5, .int .i64 a6, .int .i64 a7, .int .i64 a8, .int .i64 a9]) (.int .i64 i)).run Tryz.prog W = .ok (#[.int .i64 a0, .int .i64 a1, .int .i64 a2, .int .i64 a3, .int .i64 a4, .int .i64 a5, .int .i64 a6, .int .i64 a7, .int .i64 a8, .int .i64 a9].getD i undef) W := by
  have hs : (sizeOf 3).run Tryz.prog W = .ok 1 W := by
    cases hq : Tryz.prog.info? 3 with
    | none => have := intI; rw [hq] at this; cases this
    | some i =>
      have : i.size = 1 := by have := intI; rw [hq] at this; simpa using this
      simp [sizeOf, typeInfo, hq, this]
  have hu := run_underlying Tryz.underlying86 W
  have hu2 := run_underlying Tryz.underlying3 W
  rcases (by omega : i = 0 ∨ i = 1 ∨ i = 2 ∨ i = 3 ∨ i = 4 ∨ i = 5 ∨ i = 6 ∨ i = 7 ∨ i = 8 ∨ i = 9) with rfl | rfl | rfl | rfl | rfl | rfl | rfl | rfl | rfl | rfl <;> simp [Instr.index, asIntOf, hu, hu2, part, isAgg, hs, Value.cells]

set_option maxRecDepth 100000 in
theorem sfault_any (m : Int) (w : World) :
    Calls Tryz.prog 17 #[.int .i64 m] w fun r w' => r = .returned (.int .i64 (faultS m)) ∧ w' = w := by
  by_cases h0 : m ≤ 0
  · have hf : faultS m = 0 := by unfold faultS; rw [if_neg, if_neg, if_neg, if_neg, if_neg] <;> omega
    rw [hf]
    clear hf
    go_enter Tryz.func17, Tryz.ntmps17
    go_wp2_with fail
    go_ret
    exact ⟨rfl, rfl⟩
  · by_cases h10 : 10 ≤ m
    · have hf : faultS m = 0 := by unfold faultS; rw [if_neg, if_neg, if_neg, if_neg, if_neg] <;> omega
      rw [hf]
      clear hf
      go_enter Tryz.func17, Tryz.ntmps17
      go_wp2_with fail
      go_ret
      exact ⟨rfl, rfl⟩
    · rcases (by omega : m = 1 ∨ m = 2 ∨ m = 3 ∨ m = 4 ∨ m = 5 ∨ m = 6 ∨ m = 7 ∨ m = 8 ∨ m = 9) with rfl | rfl | rfl | rfl | rfl | rfl | rfl | rfl | rfl
      · have hx : ∀ (a0 a1 a2 a3 a4 a5 a6 a7 a8 a9 : Int) (W : World), (Instr.index 86 (.agg #[.int .i64 a0, .int .i64 a1, .int .i64 a2, .int .i64 a3, .int .i64 a4, .int .i64 a5, .int .i64 a6, .int .i64 a7, .int .i64 a8, .int .i64 a9]) (.int .i64 1)).run Tryz.prog W = .ok (.int .i64 a1) W := fun a0 a1 a2 a3 a4 a5 a6 a7 a8 a9 W => index10 a0 a1 a2 a3 a4 a5 a6 a7 a8 a9 1 (by omega) W
        go_enter Tryz.func17, Tryz.ntmps17
        go_wp2_with fail
        go_ret
        exact ⟨rfl, rfl⟩
      · have hx : ∀ (a0 a1 a2 a3 a4 a5 a6 a7 a8 a9 : Int) (W : World), (Instr.index 86 (.agg #[.int .i64 a0, .int .i64 a1, .int .i64 a2, .int .i64 a3, .int .i64 a4, .int .i64 a5, .int .i64 a6, .int .i64 a7, .int .i64 a8, .int .i64 a9]) (.int .i64 2)).run Tryz.prog W = .ok (.int .i64 a2) W := fun a0 a1 a2 a3 a4 a5 a6 a7 a8 a9 W => index10 a0 a1 a2 a3 a4 a5 a6 a7 a8 a9 2 (by omega) W
        go_enter Tryz.func17, Tryz.ntmps17
        go_wp2_with fail
        go_ret
        exact ⟨rfl, rfl⟩
      · have hx : ∀ (a0 a1 a2 a3 a4 a5 a6 a7 a8 a9 : Int) (W : World), (Instr.index 86 (.agg #[.int .i64 a0, .int .i64 a1, .int .i64 a2, .int .i64 a3, .int .i64 a4, .int .i64 a5, .int .i64 a6, .int .i64 a7, .int .i64 a8, .int .i64 a9]) (.int .i64 3)).run Tryz.prog W = .ok (.int .i64 a3) W := fun a0 a1 a2 a3 a4 a5 a6 a7 a8 a9 W => index10 a0 a1 a2 a3 a4 a5 a6 a7 a8 a9 3 (by omega) W
        go_enter Tryz.func17, Tryz.ntmps17
        go_wp2_with fail
        go_ret
        exact ⟨rfl, rfl⟩
      · have hx : ∀ (a0 a1 a2 a3 a4 a5 a6 a7 a8 a9 : Int) (W : World), (Instr.index 86 (.agg #[.int .i64 a0, .int .i64 a1, .int .i64 a2, .int .i64 a3, .int .i64 a4, .int .i64 a5, .int .i64 a6, .int .i64 a7, .int .i64 a8, .int .i64 a9]) (.int .i64 4)).run Tryz.prog W = .ok (.int .i64 a4) W := fun a0 a1 a2 a3 a4 a5 a6 a7 a8 a9 W => index10 a0 a1 a2 a3 a4 a5 a6 a7 a8 a9 4 (by omega) W
        go_enter Tryz.func17, Tryz.ntmps17
        go_wp2_with fail
        go_ret
        exact ⟨rfl, rfl⟩
      · have hx : ∀ (a0 a1 a2 a3 a4 a5 a6 a7 a8 a9 : Int) (W : World), (Instr.index 86 (.agg #[.int .i64 a0, .int .i64 a1, .int .i64 a2, .int .i64 a3, .int .i64 a4, .int .i64 a5, .int .i64 a6, .int .i64 a7, .int .i64 a8, .int .i64 a9]) (.int .i64 5)).run Tryz.prog W = .ok (.int .i64 a5) W := fun a0 a1 a2 a3 a4 a5 a6 a7 a8 a9 W => index10 a0 a1 a2 a3 a4 a5 a6 a7 a8 a9 5 (by omega) W
        go_enter Tryz.func17, Tryz.ntmps17
        go_wp2_with fail
        go_ret
        exact ⟨rfl, rfl⟩
      · have hx : ∀ (a0 a1 a2 a3 a4 a5 a6 a7 a8 a9 : Int) (W : World), (Instr.index 86 (.agg #[.int .i64 a0, .int .i64 a1, .int .i64 a2, .int .i64 a3, .int .i64 a4, .int .i64 a5, .int .i64 a6, .int .i64 a7, .int .i64 a8, .int .i64 a9]) (.int .i64 6)).run Tryz.prog W = .ok (.int .i64 a6) W := fun a0 a1 a2 a3 a4 a5 a6 a7 a8 a9 W => index10 a0 a1 a2 a3 a4 a5 a6 a7 a8 a9 6 (by omega) W
        go_enter Tryz.func17, Tryz.ntmps17
        go_wp2_with fail
        go_ret
        exact ⟨rfl, rfl⟩
      · have hx : ∀ (a0 a1 a2 a3 a4 a5 a6 a7 a8 a9 : Int) (W : World), (Instr.index 86 (.agg #[.int .i64 a0, .int .i64 a1, .int .i64 a2, .int .i64 a3, .int .i64 a4, .int .i64 a5, .int .i64 a6, .int .i64 a7, .int .i64 a8, .int .i64 a9]) (.int .i64 7)).run Tryz.prog W = .ok (.int .i64 a7) W := fun a0 a1 a2 a3 a4 a5 a6 a7 a8 a9 W => index10 a0 a1 a2 a3 a4 a5 a6 a7 a8 a9 7 (by omega) W
        go_enter Tryz.func17, Tryz.ntmps17
        go_wp2_with fail
        go_ret
        exact ⟨rfl, rfl⟩
      · have hx : ∀ (a0 a1 a2 a3 a4 a5 a6 a7 a8 a9 : Int) (W : World), (Instr.index 86 (.agg #[.int .i64 a0, .int .i64 a1, .int .i64 a2, .int .i64 a3, .int .i64 a4, .int .i64 a5, .int .i64 a6, .int .i64 a7, .int .i64 a8, .int .i64 a9]) (.int .i64 8)).run Tryz.prog W = .ok (.int .i64 a8) W := fun a0 a1 a2 a3 a4 a5 a6 a7 a8 a9 W => index10 a0 a1 a2 a3 a4 a5 a6 a7 a8 a9 8 (by omega) W
        go_enter Tryz.func17, Tryz.ntmps17
        go_wp2_with fail
        go_ret
        exact ⟨rfl, rfl⟩
      · have hx : ∀ (a0 a1 a2 a3 a4 a5 a6 a7 a8 a9 : Int) (W : World), (Instr.index 86 (.agg #[.int .i64 a0, .int .i64 a1, .int .i64 a2, .int .i64 a3, .int .i64 a4, .int .i64 a5, .int .i64 a6, .int .i64 a7, .int .i64 a8, .int .i64 a9]) (.int .i64 9)).run Tryz.prog W = .ok (.int .i64 a9) W := fun a0 a1 a2 a3 a4 a5 a6 a7 a8 a9 W => index10 a0 a1 a2 a3 a4 a5 a6 a7 a8 a9 9 (by omega) W
        go_enter Tryz.func17, Tryz.ntmps17
        go_wp2_with fail
        go_ret
        exact ⟨rfl, rfl⟩
end Go.Proofs.YtgcobbapaaihiaaGreat

set_option linter.unusedVariables false
set_option linter.unusedSimpArgs false
namespace Go.Proofs.YtgcobbapaaihiaaGreat
open Go.RowKit

def idB (n : Int) : Bool := decide (1 ≤ n) && decide (n ≤ 1099511627776)

/-- A request's bytes. -/
def encA (id h : Int) : List UInt8 := numB 1 ++ (numB id.toNat ++ numB h.toNat)

section
variable {c : Col} {w : World}

theorem mnumber_any (n : Int) (w : World) : Calls Tryz.prog 54 #[.int .i64 n] w fun r w' => r = .returned (.bool (idB n)) ∧ w' = w := by
  have hb := Lib.hid (show idB n = (decide (1 ≤ n) && decide (n ≤ 1099511627776)) from rfl)
  by_cases h1 : 1 ≤ n
  · go_enter Tryz.func54, Tryz.ntmps54
    go_wp2
    go_ret
    exact ⟨by (rw [hb.out]; simp [h1]), rfl⟩
  · go_enter Tryz.func54, Tryz.ntmps54
    go_wp2
    go_ret
    exact ⟨by (rw [hb.out]; simp; omega), rfl⟩

theorem mheight_any (n : Int) (w : World) : Calls Tryz.prog 55 #[.int .i64 n] w fun r w' => r = .returned (.bool (heightB n)) ∧ w' = w := by
  have hb := Lib.hid (show heightB n = (decide (1 ≤ n) && decide (n ≤ 1073741824)) from rfl)
  by_cases h1 : 1 ≤ n
  · go_enter Tryz.func55, Tryz.ntmps55
    go_wp2
    go_ret
    exact ⟨by (rw [hb.out]; simp [h1]), rfl⟩
  · go_enter Tryz.func55, Tryz.ntmps55
    go_wp2
    go_ret
    exact ⟨by (rw [hb.out]; simp; omega), rfl⟩

theorem mmust_yes (w : World) (e at_ : Int) : Calls Tryz.prog 49 #[.bool true, .int .i64 e, .int .i64 at_] w fun r w' => r = .returned (.tuple #[]) ∧ w' = w := by
  go_enter Tryz.func49, Tryz.ntmps49
  go_wp2
  first | go_end0 | refine bodyPost_ret (results_none rfl _ _ _) rfl ?_
  exact ⟨rfl, rfl⟩

theorem mmust_no (w : World) (e at_ : Int) : Calls Tryz.prog 49 #[.bool false, .int .i64 e, .int .i64 at_] w fun r w' => r = .panicked [{ v := .iface 109 (.agg #[.int .i64 e, .int .i64 at_]), recovered := false }] ∧ w' = w := by
  go_enter Tryz.func49, Tryz.ntmps49
  go_wp2
  exact ⟨rfl, rfl, rfl⟩

set_option maxRecDepth 100000 in
set_option maxHeartbeats 800000 in
theorem askWrite_ok (hok : Ok c w) {k kb p : Nat} (hi : IsWr c k kb w p 65536 ([], 0)) (hk0 : k ≠ 0) (hb0 : kb ≠ 0) (hkb : kb ≠ k) (id h : Int) (hid : idB id = true) (hh : heightB h = true) :
    Calls Tryz.prog 241 #[.agg #[.int .i64 id, .int .i64 h], .pointer (some ⟨p, 0, none⟩)] w fun r w' => r = .returned (.int .i64 0) ∧
      ∃ c', IsWr c' k kb w' p 65536 (encA id h, 0) ∧ Step (Two k kb) c w c' w' ∧ Ok c' w' := by
  have a1 := At.new0 hok [.int .i64 id, .int .i64 h] 205
  have o1 := hok.alloc (.cells #[.int .i64 id, .int .i64 h] 205)
  have s1 : Step No c w c (w.alloc (.cells #[.int .i64 id, .int .i64 h] 205)) := Step.refl.alloc _
  have N1 := mnumber_any id (w.alloc (.cells #[.int .i64 id, .int .i64 h] 205))
  have N2 := mheight_any h (w.alloc (.cells #[.int .i64 id, .int .i64 h] 205))
  rw [hid] at N1
  rw [hh] at N2
  have n0 : ¬ Two k kb 0 := fun h => by rcases h with h | h <;> omega
  simp only [idB, heightB, Bool.and_eq_true, decide_eq_true_eq] at hid hh
  have W1 := num_any o1 (hi.kn s1) hk0 hb0 hkb (by omega) (by simp) 1 (by omega)
  rw [putS_fits (by have := numB_len 1; simp; omega)] at W1
  have e1 : ((id.toNat : Nat) : Int) = id := Int.toNat_of_nonneg (by omega)
  have e2 : ((h.toNat : Nat) : Int) = h := Int.toNat_of_nonneg (by omega)
  have HE := Lib.hid (And.intro e1 (And.intro e2 (And.intro hid hh)))
  have y0 := a1.get (i := 0) rfl
  have y1 := a1.get (i := 1) rfl
  have X1 := Lib.hid (And.intro a1 s1)
  clear a1 o1 s1 hok hi hid hh e1 e2
  go_enter Tryz.func241, Tryz.ntmps241
  go_wp2_with fail
  with_reducible refine N1.mono ?_
  rintro e w1 ⟨rfl, rfl⟩
  go_wp2_with fail
  with_reducible refine N2.mono ?_
  rintro e w1 ⟨rfl, rfl⟩
  clear N1 N2
  go_wp2_with fail
  refine W1.mono ?_
  rintro e w2 ⟨rfl, c2, i2, s2, o2⟩
  have A2 := X1.out.1.keep s2 n0
  have W2 := num_any o2 i2 hk0 hb0 hkb (by omega) (by have := numB_len 1; simp; omega) id.toNat (by have := HE.out.2.2.1; omega)
  rw [putS_fits (by have := numB_len 1; have := numB_len id.toNat; simp; omega), HE.out.1] at W2
  have z0 := A2.get (i := 0) rfl
  have X2 := Lib.hid (And.intro A2 (X1.out.2.ofNo.trans s2))
  clear W1 i2 s2 o2 A2 y0 y1
  go_wp2_with fail
  with_reducible refine W2.mono ?_
  rintro e w3 ⟨rfl, c3, i3, s3, o3⟩
  have A3 := X2.out.1.keep s3 n0
  have W3 := num_any o3 i3 hk0 hb0 hkb (by omega) (by have := numB_len 1; have := numB_len id.toNat; simp; omega) h.toNat (by have := HE.out.2.2.2; omega)
  rw [putS_fits (by have := numB_len 1; have := numB_len id.toNat; have := numB_len h.toNat; simp; omega), HE.out.2.1] at W3
  have z1 := A3.get (i := 1) rfl
  have X3 := Lib.hid (X2.out.2.trans s3)
  clear W2 i3 s3 o3 A3 z0
  go_wp2_with fail
  with_reducible refine W3.mono ?_
  rintro e w4 ⟨rfl, c4, i4, s4, o4⟩
  have X4 := Lib.hid (And.intro i4 (And.intro (X3.out.trans s4) o4))
  clear W3 i4 s4 o4 z1
  go_wp2_with fail
  go_ret
  obtain ⟨i4, s4, o4⟩ := X4.out
  exact ⟨rfl, c4, by simpa [encA] using i4, s4, o4⟩
end
end Go.Proofs.YtgcobbapaaihiaaGreat

set_option linter.unusedVariables false
set_option linter.unusedSimpArgs false
namespace Go.Proofs.YtgcobbapaaihiaaGreat
open Go.RowKit

/-- x.(T), T a struct, x a T. -/
theorem run_assert_struct {P : Program} {t xT : TypeId} {fs : Array Field} (h : P.underlying t = some (.struct fs)) (v : Value) (w : World) : (Instr.typeAssert (.iface t v) xT t true).run P w = .ok (.tuple #[v, .bool true]) w := by
  simp [Instr.typeAssert, run_underlying h]

section
variable {c : Col} {w : World}

def mName (t : TypeInfo) : String := (t.methods.toList.map (·.name)).headD ""
theorem askMethod (n : Nat) (id h : Int) (W : World) : (method (n + 1) 205 (.agg #[.int .i64 id, .int .i64 h]) (mName Tryz.t205)).run Tryz.prog W = .ok (241, .agg #[.int .i64 id, .int .i64 h]) W := by kernel_rfl

set_option maxRecDepth 100000 in
theorem ofAsk_any (id h : Int) (w : World) :
    Calls Tryz.prog 91 #[.iface 70 (.agg #[.int .i64 id, .int .i64 h])] w fun r w' => r = .returned (.iface 205 (.agg #[.int .i64 id, .int .i64 h])) ∧ ∃ o, w' = w.alloc o := by
  have hta := fun W => run_assert_struct (P := Tryz.prog) (xT := 20) Tryz.underlying70 (.agg #[.int .i64 id, .int .i64 h]) W
  go_enter Tryz.func91, Tryz.ntmps91
  go_wp2_with fail
  go_ret
  exact ⟨rfl, _, rfl⟩

set_option maxRecDepth 100000 in
set_option maxHeartbeats 800000 in
theorem bytesAsk_ok (hok : Ok c w) (id h : Int) (hid : idB id = true) (hh : heightB h = true) (kx : Nat) :
    Calls Tryz.prog 41 #[.iface 70 (.agg #[.int .i64 id, .int .i64 h])] w fun r w' => ∃ v, r = .returned (.tuple #[v, .int .i64 0]) ∧ ∃ c', Sl TByte c' kx 0 w' v (encA id h) ∧ Step No c w c' w' ∧ Ok c' w' := by
  obtain ⟨k1, hk1, hk1c⟩ := hok.spare 0
  obtain ⟨k2, hk2, hk2c⟩ := hok.spare k1
  have k10 : k1 ≠ 0 := by omega
  have k20 : k2 ≠ 0 := by omega
  have k21 : k2 ≠ k1 := by omega
  have N := newWriter_any hok 65536 (by omega) (by omega) k1 k2
  have HK := Lib.hid (And.intro hk1c (And.intro hk2c (And.intro hid hh)))
  clear hok hk1c hk2c hid hh
  go_enter Tryz.func41, Tryz.ntmps41
  go_wp2_with fail
  with_reducible refine N.mono ?_
  rintro e w1 ⟨rfl, c1, i1, s1, o1⟩
  have O := ofAsk_any id h w1
  have X1 := Lib.hid (And.intro i1 (And.intro s1 o1))
  clear N i1 s1 o1
  go_wp2_with fail
  with_reducible refine O.mono ?_
  rintro e w2 ⟨rfl, o, rfl⟩
  have A := askWrite_ok (X1.out.2.2.alloc o) (X1.out.1.kn (Step.al o)) k10 k20 k21 id h HK.out.2.2.1 HK.out.2.2.2
  have hm := fun W => askMethod 421 id h W
  simp only [mName, Tryz.t205, List.map_cons, List.headD_cons] at hm
  clear O
  go_wp2_with fail
  with_reducible refine A.mono ?_
  rintro e w3 ⟨rfl, c3, i3, s3, o3⟩
  have D := done_any o3 i3 rfl (by have := numB_len 1; have := numB_len id.toNat; have := numB_len h.toNat; simp [encA]; omega) kx
  have X3 := Lib.hid ((X1.out.2.1.trans (Step.al o)).ofNo.trans s3)
  clear A i3 s3 o3 hm
  go_wp2_with fail
  with_reducible refine D.mono ?_
  rintro e w4 ⟨v, rfl, c4, sl4, s4, o4⟩
  have X4 := Lib.hid (And.intro sl4 (And.intro (X3.out.trans s4.ofNo) o4))
  clear D sl4 s4 o4
  go_wp2_with fail
  go_ret2
  obtain ⟨sl4, s4, o4⟩ := X4.out
  exact ⟨v, rfl, c4, sl4, s4.own2 HK.out.1 HK.out.2.1, o4⟩
end
end Go.Proofs.YtgcobbapaaihiaaGreat

set_option linter.unusedVariables false
set_option linter.unusedSimpArgs false
namespace Go.Proofs.YtgcobbapaaihiaaGreat
open Go.RowKit
attribute [local go_sem] Oper.semAt_some

def errA (x : Int) (c : Col) (W : World) (ar : Array Value) : Prop := ar = #[.int .i64 x]

set_option maxRecDepth 100000 in
set_option maxHeartbeats 1600000 in
theorem errors_iter {c : Col} {w : World} {K : Nat → Prop} {B1 bx g k : Nat} {b : Blo} {vc vv : Value} (h1 : At c w B1 0 [.slice (some ⟨g, 0, none⟩) 3 3]) (hg : At c w g 0 (partsF bx)) (hx : At c w bx 0 (bloC b vc vv)) (hb : b.At c k w vc vv) (hK : ¬ K k) (h0 : ¬ K 0) :
    Iter Tryz.prog 248 #[.pointer (some ⟨B1, 0, none⟩)] K c w errA (partsE b) := by
  intro lb J Jx c0 W0 hst hok hJ hJx hY hJ0
  have g1 := h1.keep hst h0
  have y1 := g1.c0
  refine callsIn_of_wp Tryz.func248 rfl trivial ?_
  simp only [Tryz.ntmps248, List.size_toArray, List.length_cons, List.length_nil, Nat.reduceAdd, Nat.reduceSub, Array.replicate_succ, Array.replicate_zero, List.push_toArray, List.append_toArray, List.nil_append, List.cons_append]
  gi_wp2
  gi_loopw [7] (fun i wr => ∃ (j : Nat) (cr : Col), j ≤ 3 ∧ i = .int .i64 j ∧ Step K c0 W0 cr wr ∧ Ok cr wr ∧ J ((partsE b).take j) cr wr) (fun i _ => 3 - (intOf i).toNat)
  case atStart => exact ⟨0, c0, Nat.zero_le _, rfl, Step.refl, hok, by simpa using hJ0⟩
  case round =>
    obtain ⟨j, cr, hj, rfl, s1, o1, j1⟩ := hrel
    have gr := hg.keep (hst.trans s1) h0
    have xr := hx.keep (hst.trans s1) h0
    have br := hb.keep (hst.trans s1) hK
    rcases (by omega : j = 0 ∨ j = 1 ∨ j = 2 ∨ j = 3) with rfl | rfl | rfl | rfl
    · have C := parts1_any o1 br xr
      have z := gr.get (i := 0) rfl
      have j1' : J [] cr wr := j1
      have XX := Lib.hid (And.intro j1' (And.intro s1 o1))
      clear j1 j1' s1 o1 gr xr br
      gi_wp2
      refine ⟨trivial, rfl, (callsIn_wide (n := 0)).2 (C.mono ?_)⟩
      rintro e w2 ⟨rfl, c2, s2, o2⟩
      have hpre : ([] ++ [checkH b.h]) <+: partsE b := ⟨[checkV b.vals, checkC b.cm], rfl⟩
      have YA := hY [] (checkH b.h) c2 w2 #[.int .i64 (checkH b.h)] hpre (hJ _ _ _ _ _ XX.out.1 s2 o2) o2 ((hst.trans XX.out.2.1).trans s2.ofNo) rfl
      have X2 := Lib.hid ((XX.out.2.1).trans s2.ofNo)
      have HP := Lib.hid hpre
      obtain ⟨ev, hev⟩ : ∃ e, checkH b.h = e := ⟨_, rfl⟩
      rw [hev] at YA ⊢
      have HE := Lib.hid hev
      clear C s2 o2 XX hpre hev
      obtain ⟨fn, tmps, assign, body, hy, hR⟩ := YA
      gi_wp2
      refine ⟨rfl, hR.mono ?_⟩
      rintro e W3 ⟨c3, o3, s3, (⟨rfl, hJ3⟩ | ⟨rfl, hJx3⟩)⟩
      · gi_wp2
        go_roundw
        case rel => exact ⟨1, c3, by omega, by first | rfl | go_num, X2.out.trans s3, o3, by rw [← HE.out] at hJ3; exact hJ3⟩
        case measure => simp [intOf]
      · gi_wp2
        refine bodyPost_ret (results_none rfl _ _ _) rfl ?_
        exact ⟨⟨_, rfl⟩, c3, o3, X2.out.trans s3, .inr ⟨_, HP.out, by rw [HE.out]; exact hJx3⟩⟩
    · have C := parts2_any o1 br xr
      have z := gr.get (i := 1) rfl
      have j1' : J [checkH b.h] cr wr := j1
      have XX := Lib.hid (And.intro j1' (And.intro s1 o1))
      clear j1 j1' s1 o1 gr xr br
      gi_wp2
      refine ⟨trivial, rfl, (callsIn_wide (n := 0)).2 (C.mono ?_)⟩
      rintro e w2 ⟨rfl, c2, s2, o2⟩
      have hpre : ([checkH b.h] ++ [checkV b.vals]) <+: partsE b := ⟨[checkC b.cm], rfl⟩
      have YA := hY [checkH b.h] (checkV b.vals) c2 w2 #[.int .i64 (checkV b.vals)] hpre (hJ _ _ _ _ _ XX.out.1 s2 o2) o2 ((hst.trans XX.out.2.1).trans s2.ofNo) rfl
      have X2 := Lib.hid ((XX.out.2.1).trans s2.ofNo)
      have HP := Lib.hid hpre
      obtain ⟨ev, hev⟩ : ∃ e, checkV b.vals = e := ⟨_, rfl⟩
      rw [hev] at YA ⊢
      have HE := Lib.hid hev
      clear C s2 o2 XX hpre hev
      obtain ⟨fn, tmps, assign, body, hy, hR⟩ := YA
      gi_wp2
      refine ⟨rfl, hR.mono ?_⟩
      rintro e W3 ⟨c3, o3, s3, (⟨rfl, hJ3⟩ | ⟨rfl, hJx3⟩)⟩
      · gi_wp2
        go_roundw
        case rel => exact ⟨2, c3, by omega, by first | rfl | go_num, X2.out.trans s3, o3, by rw [← HE.out] at hJ3; exact hJ3⟩
        case measure => simp [intOf]
      · gi_wp2
        refine bodyPost_ret (results_none rfl _ _ _) rfl ?_
        exact ⟨⟨_, rfl⟩, c3, o3, X2.out.trans s3, .inr ⟨_, HP.out, by rw [HE.out]; exact hJx3⟩⟩
    · have C := parts3_any o1 br xr
      have z := gr.get (i := 2) rfl
      have j1' : J [checkH b.h, checkV b.vals] cr wr := j1
      have XX := Lib.hid (And.intro j1' (And.intro s1 o1))
      clear j1 j1' s1 o1 gr xr br
      gi_wp2
      refine ⟨trivial, rfl, (callsIn_wide (n := 0)).2 (C.mono ?_)⟩
      rintro e w2 ⟨rfl, c2, s2, o2⟩
      have hpre : ([checkH b.h, checkV b.vals] ++ [checkC b.cm]) <+: partsE b := ⟨[], rfl⟩
      have YA := hY [checkH b.h, checkV b.vals] (checkC b.cm) c2 w2 #[.int .i64 (checkC b.cm)] hpre (hJ _ _ _ _ _ XX.out.1 s2 o2) o2 ((hst.trans XX.out.2.1).trans s2.ofNo) rfl
      have X2 := Lib.hid ((XX.out.2.1).trans s2.ofNo)
      have HP := Lib.hid hpre
      obtain ⟨ev, hev⟩ : ∃ e, checkC b.cm = e := ⟨_, rfl⟩
      rw [hev] at YA ⊢
      have HE := Lib.hid hev
      clear C s2 o2 XX hpre hev
      obtain ⟨fn, tmps, assign, body, hy, hR⟩ := YA
      gi_wp2
      refine ⟨rfl, hR.mono ?_⟩
      rintro e W3 ⟨c3, o3, s3, (⟨rfl, hJ3⟩ | ⟨rfl, hJx3⟩)⟩
      · gi_wp2
        go_roundw
        case rel => exact ⟨3, c3, by omega, by first | rfl | go_num, X2.out.trans s3, o3, by rw [← HE.out] at hJ3; exact hJ3⟩
        case measure => simp [intOf]
      · gi_wp2
        refine bodyPost_ret (results_none rfl _ _ _) rfl ?_
        exact ⟨⟨_, rfl⟩, c3, o3, X2.out.trans s3, .inr ⟨_, HP.out, by rw [HE.out]; exact hJx3⟩⟩
    · have X2 := Lib.hid (And.intro s1 (And.intro o1 j1))
      clear s1 o1 j1 gr xr br
      gi_wp2
      go_end0
      exact ⟨⟨_, rfl⟩, cr, X2.out.2.1, X2.out.1, .inl X2.out.2.2⟩
end Go.Proofs.YtgcobbapaaihiaaGreat
