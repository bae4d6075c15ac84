/- ServerKnown, part 29: lemmas, each with its own conditions. -/
import Derived.Test.YtgcobbapaaihiaaGreatSk02
import Derived.Test.YtgcobbapaaihiaaGreatSk05
import Derived.Test.YtgcobbapaaihiaaGreatSk21
import Derived.Test.YtgcobbapaaihiaaGreatSk28
set_option linter.unusedVariables false
set_option linter.unusedSimpArgs false
namespace Go.Proofs.YtgcobbapaaihiaaGreat
open Go.RowKit

section
variable {c : Col} {w : World}

set_option maxRecDepth 100000 in
set_option maxHeartbeats 3200000 in
theorem turned_rec (hok : Ok c w) (va : Option Addr) (vn : Nat) :
    Calls Tryz.prog 129 #[.agg (recC (.slice va 1 vn)).toArray] w fun r w' => r = .returned (.int .i64 0) ∧ ∃ c', Step No c w c' w' ∧ Ok c' w' := by
  have a0 := At.new0 hok (recC (.slice va 1 vn)) 97
  have y4 := a0.get (i := 4) rfl
  have y5 := a0.get (i := 5) rfl
  have X := Lib.hid (And.intro (Step.refl.alloc (.cells (recC (.slice va 1 vn)).toArray 97) : Step No c w c (w.alloc (.cells (recC (.slice va 1 vn)).toArray 97))) (hok.alloc (.cells (recC (.slice va 1 vn)).toArray 97)))
  obtain ⟨rb, hrb⟩ : ∃ b, w.heap.size = b := ⟨_, rfl⟩
  rw [hrb] at y4 y5
  obtain ⟨R, hR⟩ : ∃ R, recC (.slice va 1 vn) = R := ⟨_, rfl⟩
  rw [hR] at y4 y5 X ⊢
  obtain ⟨W0, hW0⟩ : ∃ W, w.alloc (.cells R.toArray 97) = W := ⟨_, rfl⟩
  rw [hW0] at y4 y5 X
  clear a0 hok hR
  go_enter Tryz.func129, Tryz.ntmps129
  go_wp2_with fail
  (try rw [hW0])
  (try rw [hrb])
  refine wp_loop_once ?_
  go_wp2_with fail
  go_ret
  exact ⟨rfl, c, X.out⟩

set_option maxRecDepth 100000 in
set_option maxHeartbeats 3200000 in
theorem may_rec (hok : Ok c w) {vv : Value} (hv : Sl TVal c 0 0 w vv l1) :
    Calls Tryz.prog 85 #[.agg (recC vv).toArray] w fun r w' => r = .returned (.int .i64 0) ∧ ∃ c', Step No c w c' w' ∧ Ok c' w' := by
  obtain ⟨va, vn, rfl, _⟩ := hv.form
  have a0 := At.new0 hok (recC (.slice va l1.length vn)) 97
  have s0 := (Step.refl.alloc (.cells (recC (.slice va l1.length vn)).toArray 97) : Step No c w c (w.alloc (.cells (recC (.slice va l1.length vn)).toArray 97)))
  have o0 := hok.alloc (.cells (recC (.slice va l1.length vn)).toArray 97)
  obtain ⟨rb, hrb⟩ : ∃ b, w.heap.size = b := ⟨_, rfl⟩
  rw [hrb] at a0
  have NM := fun W => name_any [97] (by decide) W
  have X := Lib.hid (And.intro (hv.kn s0) (And.intro a0 (And.intro s0 o0)))
  clear a0 s0 o0 hok hv
  have hRe : recC (.slice va l1.length vn) = [.string ⟨#[97]⟩, .int .i64 3, .int .i64 10, .int .i64 10, .slice va 1 vn, .slice none 0 0, .slice none 0 0, .int .i64 0, .int .u8 0] := rfl
  obtain ⟨R, hR⟩ : ∃ R, recC (.slice va l1.length vn) = R := ⟨_, rfl⟩
  rw [hR] at X hRe ⊢
  obtain ⟨W0, hW0⟩ : ∃ W, w.alloc (.cells R.toArray 97) = W := ⟨_, rfl⟩
  rw [hW0] at X
  have y0 : W0.cell? ⟨rb, 0, none⟩ = some (.string ⟨#[97]⟩) := X.out.2.1.get (i := 0) (by rw [hRe]; rfl)
  have N1 := NM W0
  rw [show nameB [97] = true from by decide] at N1
  have HRe := Lib.hid hRe
  clear hRe hR NM
  go_enter Tryz.func85, Tryz.ntmps85
  go_wp2_with fail
  (try rw [hW0])
  (try rw [hrb])
  with_reducible refine N1.mono ?_
  rintro e w1 ⟨rfl, hw1⟩
  obtain ⟨sv, a0, s0, o0⟩ := X.out
  obtain ⟨s1, o1⟩ : Step No c W0 c w1 ∧ Ok c w1 := by
    rcases hw1 with rfl | ⟨pos, rfl⟩
    · exact ⟨Step.refl, o0⟩
    · exact ⟨iter_step _ _, iter_ok o0 _ _⟩
  have a1 := a0.kn s1
  rw [HRe.out] at a1
  have y1 := a1.get (i := 1) rfl
  have y2 := a1.get (i := 2) rfl
  have y3 := a1.get (i := 3) rfl
  have y4 := a1.get (i := 4) rfl
  have VC := vcheck_any o1 (sv.kn s1) (by decide)
  rw [l1_ok.check] at VC
  have ll : l1.length = 1 := rfl
  rw [ll] at VC
  have X2 := Lib.hid (And.intro (a0.kn s1) (And.intro (s0.trans s1) (And.intro o1 (show (Tryz.prog.info? 97).map (·.size) = some R.length by rw [HRe.out]; kernel_rfl))))
  clear sv a0 s0 o0 s1 o1 a1 X hw1 y0 N1
  go_wp2_with fail
  with_reducible refine VC.mono ?_
  rintro e w2 ⟨rfl, c2, s2, o2⟩
  have TR := turned_rec o2 va vn
  have HR3 : recC (.slice va 1 vn) = R := HRe.out.symm
  rw [HR3] at TR
  have X3 := Lib.hid (And.intro (X2.out.1.kn s2).cells (And.intro X2.out.2.2.2 (X2.out.2.1.trans s2)))
  clear VC X2 s2 o2 HR3 y1 y2 y3 y4
  go_wp2_with (refine wpList_load_mid rfl 97 _ rfl rb 0 rfl R _ X3.out.1 Tryz.underlying97 rfl X3.out.2.1 ?_)
  with_reducible refine TR.mono ?_
  rintro e w3 ⟨rfl, c3, s3, o3⟩
  have F := Lib.hid (And.intro (X3.out.2.2.trans s3) o3)
  clear TR s3 o3
  go_wp2_with fail
  go_ret
  exact ⟨rfl, c3, F.out⟩
end
end Go.Proofs.YtgcobbapaaihiaaGreat

set_option linter.unusedVariables false
set_option linter.unusedSimpArgs false
namespace Go.Proofs.YtgcobbapaaihiaaGreat
open Go.RowKit
attribute [local go_sem] Oper.semAt_some

def setsA (vv : Value) (x : Int) (_ : Col) (_ : World) (ar : Array Value) : Prop := ar = #[.int .i64 x, vv]
def hs4 : List Int := [1, 2, 3, 4]

set_option maxRecDepth 100000 in
set_option maxHeartbeats 1600000 in
theorem sets_iter {c : Col} {w : World} {K : Nat → Prop} {B1 B2 : Nat} {va : Option Addr} {vn : Nat} (h1 : At c w B1 0 (recC (.slice va 1 vn))) (h0 : ¬ K 0) :
    Iter Tryz.prog 130 #[.pointer (some ⟨B1, 0, none⟩), .pointer (some ⟨B2, 0, none⟩)] K c w (setsA (.slice va 1 vn)) hs4 := by
  intro lb J Jx c0 W0 hst hok hJ hJx hY hJ0
  have g1 := h1.keep hst h0
  have KN : ∀ {c2 : Col} {w2 : World}, Step K c0 W0 c2 w2 → w2.cell? ⟨B1, 1, none⟩ = some (.int .i64 3) := fun s => (g1.keep s h0).get (i := 1) rfl
  have KK : (fun W : World => W.cell? ⟨B1, 4, none⟩ = some (.slice va 1 vn) ∧ W.cell? ⟨B1, 5, none⟩ = some (.slice none 0 0)) W0.drew := ⟨(g1.kn (Step.rf.drewN 1)).get (i := 4) rfl, (g1.kn (Step.rf.drewN 1)).get (i := 5) rfl⟩
  have sd : Step K c0 W0 c0 W0.drew := (Step.refl (K := K)).drewN 1
  have od : Ok c0 W0.drew := hok.drewN 1
  have jd : J [] c0 W0.drew := hJ _ _ _ _ _ hJ0 (Step.rf.drewN 1) od
  have XX := Lib.hid (And.intro sd (And.intro od jd))
  clear g1 hJ0 sd od jd
  refine callsIn_of_wp Tryz.func130 rfl trivial ?_
  simp only [Tryz.ntmps130, List.size_toArray, List.length_cons, List.length_nil, Nat.reduceAdd, Nat.reduceSub, Array.replicate_succ, Array.replicate_zero, List.push_toArray, List.append_toArray, List.nil_append, List.cons_append]
  gi_wp2
  rw [wpIn_wide]
  refine region_planM (fun W => W.cell? ⟨B1, 4, none⟩ = some (.slice va 1 vn) ∧ W.cell? ⟨B1, 5, none⟩ = some (.slice none 0 0)) (fun _ => true) (by kernel_rfl) ?_
  refine wpAnyM.takeT (i := 0) (v := _) (some 7) rfl rfl (by kernel_rfl) (by kernel_rfl) (by kernel_rfl) (by kernel_rfl) (by kernel_rfl) (fun _ _ _ h => h) (Or.inl ⟨by rfl, fun W hW => by first | (obtain ⟨q0, q1⟩ := hW; go_simp <;> rfl) | (obtain ⟨q0, q1⟩ := hW; go_simp; done)⟩) KK ?_
  (try simp only [Act.put, List.setIfInBounds_toArray, List.set_cons_zero, List.set_cons_succ])
  refine wpAnyM.takeT (i := 1) (v := _) (some 8) rfl rfl (by kernel_rfl) (by kernel_rfl) (by kernel_rfl) (by kernel_rfl) (by kernel_rfl) (fun _ _ _ h => h) (Or.inl ⟨by rfl, fun W hW => by first | (obtain ⟨q0, q1⟩ := hW; go_simp <;> rfl) | (obtain ⟨q0, q1⟩ := hW; go_simp; done)⟩) KK ?_
  (try simp only [Act.put, List.setIfInBounds_toArray, List.set_cons_zero, List.set_cons_succ])
  refine wpAnyM.takeT (i := 2) (v := _) (some 9) rfl rfl (by kernel_rfl) (by kernel_rfl) (by kernel_rfl) (by kernel_rfl) (by kernel_rfl) (fun _ _ _ h => h) (Or.inl ⟨by rfl, fun W hW => by first | (obtain ⟨q0, q1⟩ := hW; go_simp <;> rfl) | (obtain ⟨q0, q1⟩ := hW; go_simp; done)⟩) KK ?_
  (try simp only [Act.put, List.setIfInBounds_toArray, List.set_cons_zero, List.set_cons_succ])
  refine wpAnyM.takeT (i := 3) (v := _) (some 10) rfl rfl (by kernel_rfl) (by kernel_rfl) (by kernel_rfl) (by kernel_rfl) (by kernel_rfl) (fun _ _ _ h => h) (Or.inl ⟨by rfl, fun W hW => by first | (obtain ⟨q0, q1⟩ := hW; go_simp <;> rfl) | (obtain ⟨q0, q1⟩ := hW; go_simp; done)⟩) KK ?_
  (try simp only [Act.put, List.setIfInBounds_toArray, List.set_cons_zero, List.set_cons_succ])
  refine wpAnyM.one (i := 4) (by kernel_rfl) rfl (fun KQ hK => ?_)
  go_simp
  refine hK.out _ _ (fun _ => KK) ?_
  clear hK KQ
  (try simp only [Act.put, List.setIfInBounds_toArray, List.set_cons_zero, List.set_cons_succ])
  refine wpAnyM.one (i := 5) (by kernel_rfl) rfl (fun KQ hK => ?_)
  go_simp
  refine hK.out _ _ (fun _ => KK) ?_
  clear hK KQ
  (try simp only [Act.put, List.setIfInBounds_toArray, List.set_cons_zero, List.set_cons_succ])
  refine wpAnyM.done (by kernel_rfl) ?_ _
  gi_wp2
  gi_loopw [4, 5, 6] (fun v4 v5 i wr => v4 = .slice va 1 vn ∧ v5 = .slice none 0 0 ∧ ∃ (j : Nat) (cr : Col), j ≤ 4 ∧ i = .int .i64 (j + 1 : Nat) ∧ Step K c0 W0 cr wr ∧ Ok cr wr ∧ J (hs4.take j) cr wr) (fun _ _ i _ => 5 - (intOf i).toNat)
  case atStart => exact ⟨rfl, rfl, 0, c0, by omega, rfl, XX.out.1, XX.out.2.1, XX.out.2.2⟩
  case round =>
    obtain ⟨rfl, rfl, j, cr, hj, rfl, s1, o1, j1⟩ := hrel
    have y1 := KN s1
    clear KK XX
    by_cases h4 : j = 4
    · subst h4
      have F := Lib.hid (And.intro s1 (And.intro o1 j1))
      clear s1 o1 j1 hj
      gi_wp2
      first | go_end0 | refine bodyPost_ret (results_none rfl _ _ _) rfl ?_
      exact ⟨⟨_, rfl⟩, cr, F.out.2.1, F.out.1, .inl F.out.2.2⟩
    · have hx : hs4.take j ++ [((j + 1 : Nat) : Int)] = hs4.take (j + 1) ∧ (hs4.take j ++ [((j + 1 : Nat) : Int)]) <+: hs4 := by
        rcases (by omega : j = 0 ∨ j = 1 ∨ j = 2 ∨ j = 3) with rfl | rfl | rfl | rfl
        · exact ⟨rfl, ⟨[2, 3, 4], rfl⟩⟩
        · exact ⟨rfl, ⟨[3, 4], rfl⟩⟩
        · exact ⟨rfl, ⟨[4], rfl⟩⟩
        · exact ⟨rfl, ⟨[], rfl⟩⟩
      have hle : ((j + 1 : Nat) : Int) ≤ 4 := by omega
      have hw : IntKind.i64.wrap (((j + 1 : Nat) : Int) + 1) = ((j + 1 + 1 : Nat) : Int) := by rw [IntWalk.i64_in _ (by omega)]; rfl
      obtain ⟨n, hn⟩ : ∃ n, j + 1 = n := ⟨_, rfl⟩
      have YA := hY (hs4.take j) ((j + 1 : Nat) : Int) cr wr #[.int .i64 ((j + 1 : Nat) : Int), .slice va 1 vn] hx.2 j1 o1 (hst.trans s1) rfl
      have X := Lib.hid (And.intro s1 (And.intro hx (And.intro hj (And.intro h4 hn))))
      clear s1 o1 j1 hx hj h4
      rw [hn] at YA hle hw ⊢
      clear hn
      obtain ⟨fn, tmps, assign, body, hy, hR⟩ := YA
      gi_wp2
      refine ⟨rfl, hR.mono ?_⟩
      rintro e W3 ⟨c3, o3, s3, (⟨rfl, hJ3⟩ | ⟨rfl, hJx3⟩)⟩
      · gi_wp2
        go_roundw
        case rel =>
          obtain ⟨s1, ⟨hx1, hx2⟩, hj, h4, hn⟩ := X.out
          exact ⟨rfl, rfl, n, c3, by omega, by first | rfl | (rw [← hn]), s1.trans s3, o3, by rw [← hn, ← hx1]; exact (by rw [← hn] at hJ3; exact hJ3)⟩
        case measure => simp [intOf]; omega
      · gi_wp2
        refine bodyPost_ret (results_none rfl _ _ _) rfl ?_
        obtain ⟨s1, ⟨hx1, hx2⟩, hj, h4, hn⟩ := X.out
        exact ⟨⟨_, rfl⟩, c3, o3, s1.trans s3, .inr ⟨_, hx2, by rw [← hn] at hJx3; exact hJx3⟩⟩
end Go.Proofs.YtgcobbapaaihiaaGreat

set_option linter.unusedVariables false
set_option linter.unusedSimpArgs false
namespace Go.Proofs.YtgcobbapaaihiaaGreat
open Go.RowKit

/-- A server. -/
structure Srv where
  chain : List Blo
  other : List Blo
  moods : List Int
  delay : Int
  slow : Int

/-- A server reads: all that it leads to is of colour k. -/
structure Srv.At (s : Srv) (c : Col) (k : Nat) (w : World) (vc vo vm : Value) : Prop where
  chain : Sl TBlo c k k w vc s.chain
  other : Sl TBlo c k k w vo s.other
  moods : Sl (TInt .i64) c k k w vm s.moods
  nchain : s.chain.length ≤ 1000000000
  nother : s.other.length ≤ 1000000000
  nmoods : s.moods.length ≤ 1000000000
  delay : IntKind.i64.has s.delay
  slow : IntKind.i64.has s.slow

theorem Srv.At.keep {s : Srv} {K : Nat → Prop} {c c' : Col} {k : Nat} {w w' : World} {vc vo vm : Value} (h : s.At c k w vc vo vm) (hs : Step K c w c' w') (hk : ¬ K k) : s.At c' k w' vc vo vm :=
  ⟨h.chain.keep hs hk hk, h.other.keep hs hk hk, h.moods.keep hs hk hk, h.nchain, h.nother, h.nmoods, h.delay, h.slow⟩
theorem Srv.At.kn {s : Srv} {c c' : Col} {k : Nat} {w w' : World} {vc vo vm : Value} (h : s.At c k w vc vo vm) (hs : Step No c w c' w') : s.At c' k w' vc vo vm := h.keep hs (fun h => h)

def badW (x : Int) : Bool := decide (x < 0) || decide (1048576 < x)
def badM (x : Int) : Bool := decide (x ≤ 0) || decide (10 ≤ x)
/-- Why a server may not be. -/
def checkS (s : Srv) : Int := if 64 < s.moods.length then 4 else if badW s.delay = true then 3 else if badW s.slow = true then 3 else if s.moods.any badM = true then 3 else 0

theorem intI : (Tryz.prog.info? 3).map (·.size) = some 1 := by kernel_rfl
theorem index2 (a b : Int) (W : World) :
    (Instr.index 84 (.agg #[.int .i64 a, .int .i64 b]) (.int .i64 0)).run Tryz.prog W = .ok (.int .i64 a) W ∧
    (Instr.index 84 (.agg #[.int .i64 a, .int .i64 b]) (.int .i64 1)).run Tryz.prog W = .ok (.int .i64 b) W := by
  have hs : (sizeOf 3).run Tryz.prog W = .ok 1 W := by
    cases hq : Tryz.prog.info? 3 with
    | none => have := intI; rw [hq] at this; cases this
    | some i =>
      have : i.size = 1 := by have := intI; rw [hq] at this; simpa using this
      simp [sizeOf, typeInfo, hq, this]
  have hu := run_underlying Tryz.underlying84 W
  have hu2 := run_underlying Tryz.underlying3 W
  refine ⟨?_, ?_⟩ <;> simp [Instr.index, asIntOf, hu, hu2, part, isAgg, hs, Value.cells]

section
variable {c : Col} {w : World}

set_option maxRecDepth 100000 in
set_option maxHeartbeats 1600000 in
theorem scheck_any (hok : Ok c w) {s : Srv} {k : Nat} {vc vo vm : Value} (hs : s.At c k w vc vo vm) :
    Calls Tryz.prog 13 #[.agg #[vc, vo, vm, .int .i64 s.delay, .int .i64 s.slow]] w fun r w' => r = .returned (.int .i64 (checkS s)) ∧ ∃ c', Step No c w c' w' ∧ Ok c' w' := by
  obtain ⟨vca, vcc, rfl, _⟩ := hs.chain.form
  obtain ⟨voa, voc, rfl, _⟩ := hs.other.form
  obtain ⟨vma, vmc, rfl, _⟩ := hs.moods.form
  have s0 : Step No c w c (w.alloc (.cells #[.slice vca s.chain.length vcc, .slice voa s.other.length voc, .slice vma s.moods.length vmc, .int .i64 s.delay, .int .i64 s.slow] 25)) := Step.refl.alloc _
  have o0 := hok.alloc (.cells #[.slice vca s.chain.length vcc, .slice voa s.other.length voc, .slice vma s.moods.length vmc, .int .i64 s.delay, .int .i64 s.slow] 25)
  have sm := hs.moods.kn s0
  obtain ⟨ch, ot, l, D, S⟩ := s
  dsimp only at *
  obtain ⟨cl, hcl⟩ : ∃ n, ch.length = n := ⟨_, rfl⟩
  obtain ⟨ol, hol⟩ : ∃ n, ot.length = n := ⟨_, rfl⟩
  rw [hcl, hol] at s0 o0 sm ⊢
  have HS := Lib.hid (And.intro sm (And.intro s0 (And.intro o0 hs.nmoods)))
  clear sm s0 o0 hs hok
  by_cases h64 : 64 < l.length
  · have hc : checkS ⟨ch, ot, l, D, S⟩ = 4 := by unfold checkS; rw [if_pos h64]
    rw [hc]
    have h64' : (64 : Int) < (l.length : Int) := by omega
    clear hc hcl hol
    go_enter Tryz.func13, Tryz.ntmps13
    go_wp2_with fail
    go_ret
    exact ⟨rfl, c, HS.out.2.1, HS.out.2.2.1⟩
  have h64' : ¬ (64 : Int) < (l.length : Int) := by omega
  have hlen : l.length ≤ 64 := by omega
  by_cases hd : badW D = true
  · have hc : checkS ⟨ch, ot, l, D, S⟩ = 3 := by unfold checkS; rw [if_neg h64, if_pos hd]
    rw [hc]
    have hix := fun W => (index2 D S W).1
    simp only [badW, Bool.or_eq_true, decide_eq_true_eq] at hd
    clear hc hcl hol
    rcases (by omega : D < 0 ∨ (¬ D < 0 ∧ 1048576 < D)) with h1 | ⟨h1, h2⟩
    · go_enter Tryz.func13, Tryz.ntmps13
      go_wp2_with fail
      refine wp_loop_once ?_
      go_wp2_with fail
      go_ret
      exact ⟨rfl, c, HS.out.2.1, HS.out.2.2.1⟩
    · go_enter Tryz.func13, Tryz.ntmps13
      go_wp2_with fail
      refine wp_loop_once ?_
      go_wp2_with fail
      go_ret
      exact ⟨rfl, c, HS.out.2.1, HS.out.2.2.1⟩
  have hd0 : ¬ D < 0 ∧ ¬ 1048576 < D := by simp only [badW, Bool.or_eq_true, decide_eq_true_eq, not_or] at hd; exact hd
  obtain ⟨hd1, hd2⟩ := hd0
  have hix0 := fun W => (index2 D S W).1
  have hix1 := fun W => (index2 D S W).2
  obtain ⟨W0, hW0⟩ : ∃ W, w.alloc (.cells #[.slice vca cl vcc, .slice voa ol voc, .slice vma l.length vmc, .int .i64 D, .int .i64 S] 25) = W := ⟨_, rfl⟩
  have y2 : W0.cell? ⟨w.heap.size, 2, none⟩ = some (.slice vma l.length vmc) := by rw [← hW0]; exact (At.new0 (c := fun _ => 0) (Ok.zero w) [.slice vca cl vcc, .slice voa ol voc, .slice vma l.length vmc, .int .i64 D, .int .i64 S] 25).get (i := 2) rfl
  rw [hW0] at HS
  have hE : checkS ⟨ch, ot, l, D, S⟩ = if badW S = true then 3 else if l.any badM = true then 3 else 0 := by unfold checkS; rw [if_neg h64, if_neg hd]
  have HE := Lib.hid hE
  obtain ⟨bx, hbx⟩ : ∃ b, w.heap.size = b := ⟨_, rfl⟩
  have y3 : W0.cell? ⟨w.heap.size, 3, none⟩ = some (.int .i64 D) := by rw [← hW0]; exact (At.new0 (c := fun _ => 0) (Ok.zero w) [.slice vca cl vcc, .slice voa ol voc, .slice vma l.length vmc, .int .i64 D, .int .i64 S] 25).get (i := 3) rfl
  have y4 : W0.cell? ⟨w.heap.size, 4, none⟩ = some (.int .i64 S) := by rw [← hW0]; exact (At.new0 (c := fun _ => 0) (Ok.zero w) [.slice vca cl vcc, .slice voa ol voc, .slice vma l.length vmc, .int .i64 D, .int .i64 S] 25).get (i := 4) rfl
  rw [hbx] at y2 y3 y4
  obtain ⟨R, hR⟩ : ∃ R, checkS ⟨ch, ot, l, D, S⟩ = R := ⟨_, rfl⟩
  rw [hR] at HE ⊢
  clear hd hE hR hcl hol h64
  go_enter Tryz.func13, Tryz.ntmps13
  go_wp2_with fail
  (try rw [hW0])
  (try rw [hbx])
  clear hW0
  go_loopw [16] (fun vi wr => ∃ i : Nat, i ≤ 2 ∧ vi = .int .i64 i ∧ W0 = wr ∧ (2 ≤ i → badW S = false)) (fun vi _ => 2 - (intOf vi).toNat)
  case atStart => exact ⟨0, by omega, rfl, rfl, by omega⟩
  case round =>
    obtain ⟨i, hi, rfl, rfl, hSi⟩ := hrel
    rcases (by omega : i = 0 ∨ i = 1 ∨ i = 2) with rfl | rfl | rfl
    · clear hSi
      go_wp2_with fail
      go_roundw
      case rel => first | exact ⟨1, by omega, by first | rfl | go_num, rfl, by omega⟩ | exact ⟨1, by omega, by first | rfl | go_num, trivial, by omega⟩
      case measure => simp [intOf]
    · clear hSi
      by_cases hs1 : S < 0
      · have hb : badW S = true := by simp [badW, hs1]
        have HR := Lib.hid (show R = 3 by have := HE.out; rw [if_pos hb] at this; exact this)
        clear hb
        go_wp2_with fail
        go_ret
        exact ⟨by rw [HR.out]; rfl, c, HS.out.2.1, HS.out.2.2.1⟩
      · by_cases hs2 : 1048576 < S
        · have hb : badW S = true := by simp [badW, hs2]
          have HR := Lib.hid (show R = 3 by have := HE.out; rw [if_pos hb] at this; exact this)
          clear hb
          go_wp2_with fail
          go_ret
          exact ⟨by rw [HR.out]; rfl, c, HS.out.2.1, HS.out.2.2.1⟩
        · have HB := Lib.hid (show badW S = false by simp [badW]; omega)
          go_wp2_with fail
          go_roundw
          case rel => first | exact ⟨2, by omega, by first | rfl | go_num, rfl, fun _ => HB.out⟩ | exact ⟨2, by omega, by first | rfl | go_num, trivial, fun _ => HB.out⟩
          case measure => simp [intOf]
    · have HB := Lib.hid (hSi (by omega))
      clear hSi
      go_wp2_with fail
      go_loopw [29] (fun vi wr => ∃ i : Nat, i ≤ l.length ∧ vi = .int .i64 i ∧ W0 = wr ∧ l.any badM = (l.drop i).any badM) (fun vi _ => l.length - (intOf vi).toNat)
      case atStart => exact ⟨0, by omega, rfl, rfl, by rw [List.drop_zero]⟩
      case round =>
        obtain ⟨i, hi, rfl, rfl, hany⟩ := hrel
        by_cases hlt : i < l.length
        · obtain ⟨m, hm⟩ : ∃ m, l[i]? = some m := ⟨l[i], by simp [hlt]⟩
          have hdr : l.drop i = m :: l.drop (i + 1) := by rw [List.drop_eq_getElem_cons hlt]; rw [List.getElem?_eq_getElem hlt] at hm; injection hm with hm; rw [hm]
          obtain ⟨g, off, cap, e, hcap, hcm⟩ := HS.out.1.some (by omega)
          injection e with e1 _ e2
          subst e1 e2
          obtain ⟨vs, ⟨rfl, hmh⟩, hcs⟩ := HS.out.1.at hm
          have ym := hcs.get 0 rfl
          simp only [TInt, Nat.mul_one, Nat.add_zero] at ym
          have hlt' : (i : Int) < (l.length : Int) := by omega
          have hi64 : (i : Int) < 64 := by omega
          have HA := Lib.hid (show l.any badM = (badM m || (l.drop (i + 1)).any badM) by rw [hany, hdr, List.any_cons])
          clear hcs hany hdr hm hmh
          by_cases hm0 : m ≤ 0
          · have hb : badM m = true := by simp [badM, hm0]
            have HR := Lib.hid (show R = 3 by have := HE.out; rw [HB.out, HA.out, hb] at this; simpa using this)
            clear hb
            go_wp2_with fail
            go_ret
            exact ⟨by rw [HR.out]; rfl, c, HS.out.2.1, HS.out.2.2.1⟩
          · by_cases hm10 : 10 ≤ m
            · have hb : badM m = true := by simp [badM, hm10]
              have HR := Lib.hid (show R = 3 by have := HE.out; rw [HB.out, HA.out, hb] at this; simpa using this)
              clear hb
              go_wp2_with fail
              go_ret
              exact ⟨by rw [HR.out]; rfl, c, HS.out.2.1, HS.out.2.2.1⟩
            · have HM := Lib.hid (show badM m = false by simp [badM]; omega)
              go_wp2_with fail
              go_roundw
              case rel => first | exact ⟨i + 1, by omega, by go_num, rfl, by have := HA.out; rw [HM.out, Bool.false_or] at this; exact this⟩ | exact ⟨i + 1, by omega, by go_num, trivial, by have := HA.out; rw [HM.out, Bool.false_or] at this; exact this⟩
              case measure => simp [intOf]; omega
        · have hil : i = l.length := by omega
          subst hil
          rw [List.drop_length] at hany
          have HR := Lib.hid (show R = 0 by have := HE.out; rw [HB.out, hany] at this; simpa using this)
          clear hany
          go_wp2_with fail
          go_ret
          exact ⟨by rw [HR.out]; rfl, c, HS.out.2.1, HS.out.2.2.1⟩
end
end Go.Proofs.YtgcobbapaaihiaaGreat

set_option linter.unusedVariables false
set_option linter.unusedSimpArgs false
namespace Go.Proofs.YtgcobbapaaihiaaGreat
open Go.RowKit

/-- A server's mood. -/
def moodS (s : Srv) (nth : Int) : Int := if checkS s ≠ 0 ∨ nth < 0 then 0 else if s.moods.length = 0 then 1 else s.moods.getD (nth % s.moods.length).toNat 0

def srvC (s : Srv) (vc vo vm : Value) : List Value := [vc, vo, vm, .int .i64 s.delay, .int .i64 s.slow]

section
variable {c : Col} {w : World}

set_option maxRecDepth 100000 in
set_option maxHeartbeats 1600000 in
theorem mood_any (hok : Ok c w) {s : Srv} {k : Nat} {vc vo vm : Value} (hs : s.At c k w vc vo vm) (nth : Int) :
    Calls Tryz.prog 15 #[.agg #[vc, vo, vm, .int .i64 s.delay, .int .i64 s.slow], .int .i64 nth] w fun r w' => r = .returned (.int .i64 (moodS s nth)) ∧ ∃ c', Step No c w c' w' ∧ Ok c' w' := by
  obtain ⟨vca, vcc, rfl, _⟩ := hs.chain.form
  obtain ⟨voa, voc, rfl, _⟩ := hs.other.form
  obtain ⟨vma, vmc, rfl, _⟩ := hs.moods.form
  have a0 := At.new0 hok [.slice vca s.chain.length vcc, .slice voa s.other.length voc, .slice vma s.moods.length vmc, .int .i64 s.delay, .int .i64 s.slow] 25
  have s0 : Step No c w c (w.alloc (.cells #[.slice vca s.chain.length vcc, .slice voa s.other.length voc, .slice vma s.moods.length vmc, .int .i64 s.delay, .int .i64 s.slow] 25)) := Step.refl.alloc _
  have o0 := hok.alloc (.cells #[.slice vca s.chain.length vcc, .slice voa s.other.length voc, .slice vma s.moods.length vmc, .int .i64 s.delay, .int .i64 s.slow] 25)
  have CK := scheck_any o0 (hs.kn s0)
  have hnm := hs.nmoods
  have HS := Lib.hid (And.intro (hs.moods.kn s0) (And.intro s0 a0))
  obtain ⟨l, hl⟩ : ∃ l, s.moods = l := ⟨_, rfl⟩
  obtain ⟨bx, hbx⟩ : ∃ b, w.heap.size = b := ⟨_, rfl⟩
  rw [hl] at HS CK hnm ⊢
  rw [hbx] at HS
  obtain ⟨W0, hW0⟩ : ∃ W, w.alloc (.cells #[.slice vca s.chain.length vcc, .slice voa s.other.length voc, .slice vma l.length vmc, .int .i64 s.delay, .int .i64 s.slow] 25) = W := ⟨_, rfl⟩
  rw [hW0] at HS CK
  obtain ⟨R, hR⟩ : ∃ R, moodS s nth = R := ⟨_, rfl⟩
  obtain ⟨E, hE⟩ : ∃ E, checkS s = E := ⟨_, rfl⟩
  have HR := Lib.hid (show R = if E ≠ 0 ∨ nth < 0 then 0 else if l.length = 0 then 1 else l.getD (nth % l.length).toNat 0 by rw [← hR, moodS, hE, hl])
  rw [hR]
  rw [hE] at CK
  obtain ⟨cl, hcl⟩ : ∃ n, s.chain.length = n := ⟨_, rfl⟩
  obtain ⟨ol, hol⟩ : ∃ n, s.other.length = n := ⟨_, rfl⟩
  obtain ⟨D, hD⟩ : ∃ n, s.delay = n := ⟨_, rfl⟩
  obtain ⟨S, hS⟩ : ∃ n, s.slow = n := ⟨_, rfl⟩
  rw [hcl, hol, hD, hS] at HS CK hW0 ⊢
  have y0 := HS.out.2.2.get (i := 0) rfl
  have y1 := HS.out.2.2.get (i := 1) rfl
  have y2 := HS.out.2.2.get (i := 2) rfl
  have y3 := HS.out.2.2.get (i := 3) rfl
  have y4 := HS.out.2.2.get (i := 4) rfl
  clear a0 s0 o0 hs hok hl hR hE hcl hol hD hS
  by_cases hE0 : E = 0
  · subst hE0
    by_cases hn : nth < 0
    · have HR2 := Lib.hid (show R = 0 by have := HR.out; rw [if_pos (.inr hn)] at this; exact this)
      go_enter Tryz.func15, Tryz.ntmps15
      go_wp2_with fail
      (try rw [hW0])
      with_reducible refine CK.mono ?_
      rintro e w1 ⟨rfl, c1, s1, o1⟩
      have X := Lib.hid (And.intro (HS.out.2.1.trans s1) o1)
      clear CK s1 o1
      go_wp2_with fail
      go_ret
      exact ⟨by rw [HR2.out]; rfl, c1, X.out⟩
    · by_cases hl0 : l.length = 0
      · have HR2 := Lib.hid (show R = 1 by have := HR.out; rw [if_neg (by simp; omega), if_pos hl0] at this; exact this)
        have HL0 := Lib.hid hl0
        clear hl0
        go_enter Tryz.func15, Tryz.ntmps15
        go_wp2_with fail
        (try rw [hW0])
        with_reducible refine CK.mono ?_
        rintro e w1 ⟨rfl, c1, s1, o1⟩
        have z2 := (HS.out.2.2.keep s1 (fun h => h)).get (i := 2) rfl
        have X := Lib.hid (And.intro (HS.out.2.1.trans s1) o1)
        have hl0' : (l.length : Int) = 0 := by have := HL0.out; omega
        clear CK s1 o1
        go_wp2_with fail
        go_ret
        exact ⟨by rw [HR2.out]; rfl, c1, X.out⟩
      · obtain ⟨j, hj⟩ : ∃ j, (nth % (l.length : Int)).toNat = j := ⟨_, rfl⟩
        have hmod := Int.emod_nonneg nth (show (l.length : Int) ≠ 0 by omega)
        have hmod2 := Int.emod_lt_of_pos nth (show (0 : Int) < (l.length : Int) by omega)
        have hjl : j < l.length := by omega
        have hje : Int.tmod nth (l.length : Int) = (j : Int) := by rw [Int.tmod_eq_emod_of_nonneg (by omega)]; omega
        obtain ⟨m, hm⟩ : ∃ m, l[j]? = some m := ⟨l[j], by simp [hjl]⟩
        have HR2 := Lib.hid (show R = m by have := HR.out; rw [if_neg (by simp; omega), if_neg hl0, hj, List.getD, hm] at this; exact this)
        obtain ⟨g, off, cap, e, hcap, hcm⟩ := HS.out.1.some (by omega)
        injection e with e1 _ e2
        subst e1 e2
        have hl0' : ¬ (l.length : Int) = 0 := by omega
        have hj0 : (0 : Int) ≤ (j : Int) := by omega
        have hj1 : (j : Int) < (l.length : Int) := by omega
        clear hj hmod hmod2
        go_enter Tryz.func15, Tryz.ntmps15
        go_wp2_with fail
        (try rw [hW0])
        with_reducible refine CK.mono ?_
        rintro e w1 ⟨rfl, c1, s1, o1⟩
        have z2 := (HS.out.2.2.keep s1 (fun h => h)).get (i := 2) rfl
        obtain ⟨vs, ⟨rfl, hmh⟩, hcs⟩ := (HS.out.1.kn s1).at hm
        have ym := hcs.get 0 rfl
        simp only [TInt, Nat.mul_one, Nat.add_zero] at ym
        have KK : (fun W : World => W.cell? ⟨bx, 2, none⟩ = some (.slice (some ⟨g, off, none⟩) l.length vmc) ∧ W.cell? ⟨g, off + j, none⟩ = some (.int .i64 m)) w1.drew := ⟨z2, ym⟩
        have X := Lib.hid (And.intro ((HS.out.2.1.trans s1).drewN 1) (o1.drewN 1))
        clear CK s1 o1 hcs hm
        go_wp2_with fail
        refine region_planM (fun W => W.cell? ⟨bx, 2, none⟩ = some (.slice (some ⟨g, off, none⟩) l.length vmc) ∧ W.cell? ⟨g, off + j, none⟩ = some (.int .i64 m)) (fun i => !([9] : List Nat).contains i) (by kernel_rfl) ?_
        refine wpAnyM.takeT (i := 0) (v := _) (some 18) rfl rfl (by kernel_rfl) (by kernel_rfl) (by kernel_rfl) (by kernel_rfl) (by kernel_rfl) (fun _ _ _ h => h) (Or.inl ⟨by rfl, fun W hW => by first | (obtain ⟨q0, q1⟩ := hW; go_simp <;> rfl) | (obtain ⟨q0, q1⟩ := hW; go_simp; done)⟩) KK ?_
        (try simp only [Act.put, List.setIfInBounds_toArray, List.set_cons_zero, List.set_cons_succ])
        refine wpAnyM.takeT (i := 1) (v := _) (some 19) rfl rfl (by kernel_rfl) (by kernel_rfl) (by kernel_rfl) (by kernel_rfl) (by kernel_rfl) (fun _ _ _ h => h) (Or.inl ⟨by rfl, fun W hW => by first | (obtain ⟨q0, q1⟩ := hW; go_simp <;> rfl) | (obtain ⟨q0, q1⟩ := hW; go_simp; done)⟩) KK ?_
        (try simp only [Act.put, List.setIfInBounds_toArray, List.set_cons_zero, List.set_cons_succ])
        refine wpAnyM.takeT (i := 2) (v := _) (some 20) rfl rfl (by kernel_rfl) (by kernel_rfl) (by kernel_rfl) (by kernel_rfl) (by kernel_rfl) (fun _ _ _ h => h) (Or.inl ⟨by rfl, fun W hW => by first | (obtain ⟨q0, q1⟩ := hW; go_simp <;> rfl) | (obtain ⟨q0, q1⟩ := hW; go_simp; done)⟩) KK ?_
        (try simp only [Act.put, List.setIfInBounds_toArray, List.set_cons_zero, List.set_cons_succ])
        refine wpAnyM.takeT (i := 3) (v := _) (some 21) rfl rfl (by kernel_rfl) (by kernel_rfl) (by kernel_rfl) (by kernel_rfl) (by kernel_rfl) (fun _ _ _ h => h) (Or.inl ⟨by rfl, fun W hW => by first | (obtain ⟨q0, q1⟩ := hW; go_simp <;> rfl) | (obtain ⟨q0, q1⟩ := hW; go_simp; done)⟩) KK ?_
        (try simp only [Act.put, List.setIfInBounds_toArray, List.set_cons_zero, List.set_cons_succ])
        refine wpAnyM.takeT (i := 4) (v := _) (some 22) rfl rfl (by kernel_rfl) (by kernel_rfl) (by kernel_rfl) (by kernel_rfl) (by kernel_rfl) (fun _ _ _ h => h) (Or.inl ⟨by rfl, fun W hW => by first | (obtain ⟨q0, q1⟩ := hW; go_simp <;> rfl) | (obtain ⟨q0, q1⟩ := hW; go_simp; done)⟩) KK ?_
        (try simp only [Act.put, List.setIfInBounds_toArray, List.set_cons_zero, List.set_cons_succ])
        refine wpAnyM.takeT (i := 5) (v := _) (some 23) rfl rfl (by kernel_rfl) (by kernel_rfl) (by kernel_rfl) (by kernel_rfl) (by kernel_rfl) (fun _ _ _ h => h) (Or.inl ⟨by rfl, fun W hW => by first | (obtain ⟨q0, q1⟩ := hW; go_simp <;> rfl) | (obtain ⟨q0, q1⟩ := hW; go_simp; done)⟩) KK ?_
        (try simp only [Act.put, List.setIfInBounds_toArray, List.set_cons_zero, List.set_cons_succ])
        refine wpAnyM.takeT (i := 6) (v := _) (some 24) rfl rfl (by kernel_rfl) (by kernel_rfl) (by kernel_rfl) (by kernel_rfl) (by kernel_rfl) (fun _ _ _ h => h) (Or.inl ⟨by rfl, fun W hW => by first | (obtain ⟨q0, q1⟩ := hW; go_simp <;> rfl) | (obtain ⟨q0, q1⟩ := hW; go_simp; done)⟩) KK ?_
        (try simp only [Act.put, List.setIfInBounds_toArray, List.set_cons_zero, List.set_cons_succ])
        refine wpAnyM.takeT (i := 7) (v := _) (some 25) rfl rfl (by kernel_rfl) (by kernel_rfl) (by kernel_rfl) (by kernel_rfl) (by kernel_rfl) (fun _ _ _ h => h) (Or.inl ⟨by rfl, fun W hW => by first | (obtain ⟨q0, q1⟩ := hW; go_simp <;> rfl) | (obtain ⟨q0, q1⟩ := hW; go_simp; done)⟩) KK ?_
        (try simp only [Act.put, List.setIfInBounds_toArray, List.set_cons_zero, List.set_cons_succ])
        refine wpAnyM.takeT (i := 8) (v := _) (some 26) rfl rfl (by kernel_rfl) (by kernel_rfl) (by kernel_rfl) (by kernel_rfl) (by kernel_rfl) (fun _ _ _ h => h) (Or.inl ⟨by rfl, fun W hW => by first | (obtain ⟨q0, q1⟩ := hW; go_simp <;> rfl) | (obtain ⟨q0, q1⟩ := hW; go_simp; done)⟩) KK ?_
        (try simp only [Act.put, List.setIfInBounds_toArray, List.set_cons_zero, List.set_cons_succ])
        refine wpAnyM.one (i := 9) (by kernel_rfl) rfl (fun KQ hK => ?_)
        go_simp
        refine hK.out _ _ (fun h => absurd h (by decide)) ?_
        clear hK KQ
        (try simp only [Act.put, List.setIfInBounds_toArray, List.set_cons_zero, List.set_cons_succ])
        refine wpAnyM.done (by kernel_rfl) ?_ _
        go_wp2_with fail
        go_ret
        exact ⟨by rw [HR2.out]; rfl, c1, X.out⟩
  · have HR2 := Lib.hid (show R = 0 by have := HR.out; rw [if_pos (.inl hE0)] at this; exact this)
    have hE2 : (E != 0) = true := by rw [bne_iff_ne]; exact hE0
    go_enter Tryz.func15, Tryz.ntmps15
    go_wp2_with fail
    (try rw [hW0])
    with_reducible refine CK.mono ?_
    rintro e w1 ⟨rfl, c1, s1, o1⟩
    have X := Lib.hid (And.intro (HS.out.2.1.trans s1) o1)
    clear CK s1 o1
    go_wp2_with fail
    go_ret
    exact ⟨by rw [HR2.out]; rfl, c1, X.out⟩
end
end Go.Proofs.YtgcobbapaaihiaaGreat
