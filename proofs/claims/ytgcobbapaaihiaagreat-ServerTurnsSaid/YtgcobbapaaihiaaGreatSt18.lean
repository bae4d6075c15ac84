/- ServerTurns, part 18: lemmas, each with its own conditions. -/
import Derived.Test.YtgcobbapaaihiaaGreatSt02
import Derived.Test.YtgcobbapaaihiaaGreatSt12
import Derived.Test.YtgcobbapaaihiaaGreatSt13
import Derived.Test.YtgcobbapaaihiaaGreatSt14
import Derived.Test.YtgcobbapaaihiaaGreatSt17
set_option linter.unusedVariables false
set_option linter.unusedSimpArgs false
namespace Go.Proofs.YtgcobbapaaihiaaGreat
open Go.RowKit

section
variable {c : Col} {w : World}

set_option maxRecDepth 100000 in
theorem mat_any (hok : Ok c w) {k p : Nat} {bs : List UInt8} {a : Nat} (h : IsRd c k w p bs a (0, 0)) :
    Calls Tryz.prog 56 #[.agg #[.pointer (some ⟨p, 0, none⟩), .int .i64 bs.length]] w fun r w' => r = .returned (.int .i64 a) ∧ ∃ c', Step No c w c' w' ∧ Ok c' w' := by
  have s1 : Step No c w c (w.alloc (.cells #[.pointer (some ⟨p, 0, none⟩), .int .i64 bs.length] 115)) := Step.refl.alloc _
  have a1 := At.new0 hok [.pointer (some ⟨p, 0, none⟩), .int .i64 bs.length] 115
  have o1 := hok.alloc (.cells #[.pointer (some ⟨p, 0, none⟩), .int .i64 bs.length] 115)
  have R := rest_ok ((h.kn s1).kn (Step.rf.drewN 1)) rfl
  have hle := h.le
  have hfew := h.few
  have hw : IntKind.i64.wrap ((bs.length : Int) - ((bs.length : Int) - (a : Int))) = (a : Int) := by rw [IntWalk.i64_in _ (by omega)]; omega
  obtain ⟨W1, hW1⟩ : ∃ W, w.alloc (.cells #[.pointer (some ⟨p, 0, none⟩), .int .i64 bs.length] 115) = W := ⟨_, rfl⟩
  obtain ⟨bx, hbx⟩ : ∃ b, w.heap.size = b := ⟨_, rfl⟩
  have K1 : (fun W : World => W.cell? ⟨bx, 0, none⟩ = some (.pointer (some ⟨p, 0, none⟩)) ∧ W.cell? ⟨bx, 1, none⟩ = some (.int .i64 bs.length)) W1.drew := by rw [← hW1, ← hbx]; exact ⟨a1.get (i := 0) rfl, a1.get (i := 1) rfl⟩
  rw [hW1] at s1 o1 R
  have X := Lib.hid (And.intro s1 o1)
  clear s1 o1 a1 h hok
  go_enter Tryz.func56, Tryz.ntmps56
  go_wp2_with fail
  (try rw [hW1])
  (try rw [hbx])
  refine region_planM (fun W => W.cell? ⟨bx, 0, none⟩ = some (.pointer (some ⟨p, 0, none⟩)) ∧ W.cell? ⟨bx, 1, none⟩ = some (.int .i64 bs.length)) (fun i => !([6] : List Nat).contains i) (by kernel_rfl) ?_
  refine tk2 0 _ 3 rfl rfl K1 ?_
  refine tk2 1 _ 4 rfl rfl K1 ?_
  refine tk2 2 _ 5 rfl rfl K1 ?_
  refine tk2 3 _ 6 rfl rfl K1 ?_
  refine wpAnyM.one (i := 4) (by kernel_rfl) rfl (fun KQ hK => ?_)
  go_simp
  refine R.mono ?_
  rintro e w2 ⟨rfl, n, rfl⟩
  have X2 := Lib.hid (And.intro (X.out.1.drewN (1 + n)) (X.out.2.drewN (1 + n)))
  go_simp
  refine hK.out _ _ (fun _ => K1) ?_
  clear hK KQ
  (try simp only [Act.put, List.setIfInBounds_toArray, List.set_cons_zero, List.set_cons_succ])
  refine tk2 5 _ 8 rfl rfl K1 ?_
  refine wpAnyM.one (i := 6) (by kernel_rfl) rfl (fun KQ hK => ?_)
  go_simp
  refine hK.out _ _ (fun h => absurd h (by decide)) ?_
  clear hK KQ
  (try simp only [Act.put, List.setIfInBounds_toArray, List.set_cons_zero, List.set_cons_succ])
  refine wpAnyM.done (by kernel_rfl) ?_ _
  go_wp2_with fail
  go_ret
  exact ⟨rfl, c, X2.out⟩

set_option maxRecDepth 100000 in
set_option maxHeartbeats 1600000 in
theorem fine_any (hok : Ok c w) {k p : Nat} {bs : List UInt8} {a : Nat} (h : IsRd c k w p bs a (0, 0)) (n : Int) :
    Calls Tryz.prog 52 #[.agg #[.pointer (some ⟨p, 0, none⟩), .int .i64 n]] w fun r w' => r = .returned (.tuple #[]) ∧ ∃ c', Step No c w c' w' ∧ Ok c' w' := by
  have s1 : Step No c w c (w.alloc (.cells #[.pointer (some ⟨p, 0, none⟩), .int .i64 n] 115)) := Step.refl.alloc _
  have a1 := At.new0 hok [.pointer (some ⟨p, 0, none⟩), .int .i64 n] 115
  have o1 := hok.alloc (.cells #[.pointer (some ⟨p, 0, none⟩), .int .i64 n] 115)
  have E := end_any o1 (h.kn s1)
  have hle := h.le
  have hfew := h.few
  obtain ⟨W1, hW1⟩ : ∃ W, w.alloc (.cells #[.pointer (some ⟨p, 0, none⟩), .int .i64 n] 115) = W := ⟨_, rfl⟩
  obtain ⟨bx, hbx⟩ : ∃ b, w.heap.size = b := ⟨_, rfl⟩
  have h1 := h.kn s1
  rw [hW1] at s1 o1 E a1 h1
  rw [hbx] at a1
  have y0 := a1.get (i := 0) rfl
  have X1 := Lib.hid (And.intro s1 (And.intro a1 h1))
  clear s1 o1 a1 h hok h1
  by_cases hlt : a < bs.length
  · have he : endF bs a (0, 0) = (4, (a : Int)) := by unfold endF; rw [if_pos ⟨rfl, hlt⟩]
    rw [he] at E
    go_enter Tryz.func52, Tryz.ntmps52
    go_wp2_with fail
    (try rw [hW1])
    (try rw [hbx])
    with_reducible refine E.mono ?_
    rintro e w2 ⟨rfl, c2, s2, o2⟩
    have a2 := X1.out.2.1.keep s2 (fun h => h)
    have s3 : Step No c2 w2 c2 (w2.alloc (.cells #[.int .i64 4, .int .i64 a] 74)) := Step.refl.alloc _
    have f3 := At.new0 o2 [.int .i64 4, .int .i64 a] 74
    have o3 := o2.alloc (.cells #[.int .i64 4, .int .i64 a] 74)
    have a3 := a2.keep s3 (fun h => h)
    have R := rest_ok (((X1.out.2.2.kn s2).kn s3).kn (Step.rf.drewN 1)) rfl
    obtain ⟨W3, hW3⟩ : ∃ W, w2.alloc (.cells #[.int .i64 4, .int .i64 a] 74) = W := ⟨_, rfl⟩
    obtain ⟨fb, hfb⟩ : ∃ b, w2.heap.size = b := ⟨_, rfl⟩
    have K1 : (fun W : World => W.cell? ⟨bx, 0, none⟩ = some (.pointer (some ⟨p, 0, none⟩)) ∧ W.cell? ⟨fb, 0, none⟩ = some (.int .i64 4) ∧ W.cell? ⟨fb, 1, none⟩ = some (.int .i64 a)) W3.drew := by rw [← hW3, ← hfb]; exact ⟨a3.get (i := 0) rfl, f3.get (i := 0) rfl, f3.get (i := 1) rfl⟩
    rw [hW3] at s3 o3 R
    have X3 := Lib.hid (And.intro ((X1.out.1.trans s2).trans s3) o3)
    have hg : (0 : Int) < (bs.length : Int) - (a : Int) := by omega
    have hgd : decide ((0 : Int) < (bs.length : Int) - (a : Int)) = true := by simp; omega
    clear E s2 o2 a2 s3 f3 o3 a3 y0
    go_wp2_with fail
    (try rw [hW3])
    (try rw [hfb])
    refine region_planM (fun W => W.cell? ⟨bx, 0, none⟩ = some (.pointer (some ⟨p, 0, none⟩)) ∧ W.cell? ⟨fb, 0, none⟩ = some (.int .i64 4) ∧ W.cell? ⟨fb, 1, none⟩ = some (.int .i64 a)) (fun _ => true) (by kernel_rfl) ?_
    refine tk3 0 _ 6 rfl rfl K1 ?_
    refine tk3 1 _ 7 rfl rfl K1 ?_
    refine tk3 2 _ 8 rfl rfl K1 ?_
    refine tk3 3 _ 9 rfl rfl K1 ?_
    refine tk3 4 _ 10 rfl rfl K1 ?_
    refine tk3 5 _ 11 rfl rfl K1 ?_
    refine tk3 9 _ 15 rfl rfl K1 ?_
    refine tk3 10 _ 16 rfl rfl K1 ?_
    refine tk3 11 _ 17 rfl rfl K1 ?_
    refine tk3 12 _ 18 rfl rfl K1 ?_
    refine wpAnyM.one (i := 6) (by kernel_rfl) rfl (fun KQ hK => ?_)
    go_simp
    refine R.mono ?_
    rintro e w4 ⟨rfl, m, rfl⟩
    have X4 := Lib.hid (And.intro (X3.out.1.drewN (1 + m)) (X3.out.2.drewN (1 + m)))
    go_simp
    refine hK.out _ _ (fun _ => K1) ?_
    clear hK KQ
    (try simp only [Act.put, List.setIfInBounds_toArray, List.set_cons_zero, List.set_cons_succ])
    refine tk3 7 _ 13 rfl rfl K1 ?_
    refine tk3 8 _ 14 rfl rfl K1 ?_
    refine wpAnyM.one (i := 13) (by kernel_rfl) rfl (fun KQ hK => ?_)
    go_simp
    refine (mmust_yes _ 4 (a : Int)).mono ?_
    rintro e w5 ⟨rfl, rfl⟩
    go_simp
    refine hK.out _ _ (fun _ => K1) ?_
    clear hK KQ
    (try simp only [Act.put, List.setIfInBounds_toArray, List.set_cons_zero, List.set_cons_succ])
    refine wpAnyM.done (by kernel_rfl) ?_ _
    go_wp2_with fail
    first | go_end0 | refine bodyPost_ret (results_none rfl _ _ _) rfl ?_
    exact ⟨rfl, c2, X4.out⟩
  · have he : endF bs a (0, 0) = (0, 0) := by unfold endF; rw [if_neg (fun h => hlt h.2)]
    rw [he] at E
    go_enter Tryz.func52, Tryz.ntmps52
    go_wp2_with fail
    (try rw [hW1])
    (try rw [hbx])
    with_reducible refine E.mono ?_
    rintro e w2 ⟨rfl, c2, s2, o2⟩
    have s3 : Step No c2 w2 c2 (w2.alloc (.cells #[.int .i64 0, .int .i64 0] 74)) := Step.refl.alloc _
    have f3 := At.new0 o2 [.int .i64 0, .int .i64 0] 74
    have o3 := o2.alloc (.cells #[.int .i64 0, .int .i64 0] 74)
    obtain ⟨W3, hW3⟩ : ∃ W, w2.alloc (.cells #[.int .i64 0, .int .i64 0] 74) = W := ⟨_, rfl⟩
    obtain ⟨fb, hfb⟩ : ∃ b, w2.heap.size = b := ⟨_, rfl⟩
    have K1 : (fun W : World => W.cell? ⟨fb, 0, none⟩ = some (.int .i64 0) ∧ W.cell? ⟨fb, 1, none⟩ = some (.int .i64 0)) W3.drew := by rw [← hW3, ← hfb]; exact ⟨f3.get (i := 0) rfl, f3.get (i := 1) rfl⟩
    rw [hW3] at s3 o3
    have X3 := Lib.hid (And.intro (((X1.out.1.trans s2).trans s3).drewN 1) (o3.drewN 1))
    have HW3 := Lib.hid hW3
    clear E s2 o2 s3 f3 o3 y0 hW3
    go_wp2_with fail
    (try rw [HW3.out])
    (try rw [hfb])
    refine region_planM (fun W => W.cell? ⟨fb, 0, none⟩ = some (.int .i64 0) ∧ W.cell? ⟨fb, 1, none⟩ = some (.int .i64 0)) (fun _ => true) (by kernel_rfl) ?_
    refine tk2 0 _ 6 rfl rfl K1 ?_
    refine tk2 1 _ 7 rfl rfl K1 ?_
    refine tk2 2 _ 8 rfl rfl K1 ?_
    refine tk2 3 _ 9 rfl rfl K1 ?_
    refine tku 4 _ 10 rfl rfl K1 ?_
    refine tku 5 _ 11 rfl rfl K1 ?_
    refine tku 6 _ 12 rfl rfl K1 ?_
    refine tku 7 _ 13 rfl rfl K1 ?_
    refine tk2 8 _ 14 rfl rfl K1 ?_
    refine tk2 9 _ 15 rfl rfl K1 ?_
    refine tk2 10 _ 16 rfl rfl K1 ?_
    refine tk2 11 _ 17 rfl rfl K1 ?_
    refine tk2 12 _ 18 rfl rfl K1 ?_
    refine wpAnyM.one (i := 13) (by kernel_rfl) rfl (fun KQ hK => ?_)
    go_simp
    refine (mmust_yes _ 0 0).mono ?_
    rintro e w5 ⟨rfl, rfl⟩
    go_simp
    refine hK.out _ _ (fun _ => K1) ?_
    clear hK KQ
    (try simp only [Act.put, List.setIfInBounds_toArray, List.set_cons_zero, List.set_cons_succ])
    refine wpAnyM.done (by kernel_rfl) ?_ _
    go_wp2_with fail
    first | go_end0 | refine bodyPost_ret (results_none rfl _ _ _) rfl ?_
    exact ⟨rfl, c2, X3.out⟩

set_option maxRecDepth 100000 in
set_option maxHeartbeats 1600000 in
theorem mnum_any (hok : Ok c w) {k p : Nat} {bs : List UInt8} {a : Nat} (h : IsRd c k w p bs a (0, 0)) (hk0 : k ≠ 0) (n : Nat) (hn : n < 9223372036854775808) {rest : List UInt8} (hb : bs.drop a = numB n ++ rest) {may : Nat} (hmay : ∀ W, Calls Tryz.prog may #[.int .i64 n] W fun r w' => r = .returned (.bool true) ∧ w' = W) (hmf : may = 54 ∨ may = 55) :
    Calls Tryz.prog 53 #[.agg #[.pointer (some ⟨p, 0, none⟩), .int .i64 bs.length], .func (.func may) #[] #[]] w fun r w' => r = .returned (.int .i64 n) ∧
      ∃ c', IsRd c' k w' p bs (a + (numB n).length) (0, 0) ∧ Step (One k) c w c' w' ∧ Ok c' w' := by
  have hnk : ¬ One k 0 := fun (e : 0 = k) => hk0 e.symm
  have s1 : Step No c w c (w.alloc (.cells #[.pointer (some ⟨p, 0, none⟩), .int .i64 bs.length] 115)) := Step.refl.alloc _
  have a1 := At.new0 hok [.pointer (some ⟨p, 0, none⟩), .int .i64 bs.length] 115
  have o1 := hok.alloc (.cells #[.pointer (some ⟨p, 0, none⟩), .int .i64 bs.length] 115)
  have AT := mat_any o1 (h.kn s1)
  obtain ⟨W1, hW1⟩ : ∃ W, w.alloc (.cells #[.pointer (some ⟨p, 0, none⟩), .int .i64 bs.length] 115) = W := ⟨_, rfl⟩
  obtain ⟨bx, hbx⟩ : ∃ b, w.heap.size = b := ⟨_, rfl⟩
  have h1 := h.kn s1
  rw [hW1] at s1 o1 AT a1 h1
  rw [hbx] at a1
  have y0 := a1.get (i := 0) rfl
  have y1 := a1.get (i := 1) rfl
  have X1 := Lib.hid (And.intro s1 (And.intro a1 h1))
  have HB := Lib.hid (And.intro hb hmay)
  clear s1 o1 a1 h hok h1 hb hmay
  go_enter Tryz.func53, Tryz.ntmps53
  go_wp2_with fail
  (try rw [hW1])
  (try rw [hbx])
  with_reducible refine AT.mono ?_
  rintro e w2 ⟨rfl, c2, s2, o2⟩
  have a2 := X1.out.2.1.keep s2 (fun h => h)
  have NM := Num_any o2 (X1.out.2.2.kn s2) hk0 n hn HB.out.1
  have z0 := a2.get (i := 0) rfl
  have X2 := Lib.hid (And.intro (X1.out.1.trans s2) a2)
  clear AT s2 o2 a2 y0 y1
  go_wp2_with fail
  with_reducible refine NM.mono ?_
  rintro e w3 ⟨rfl, c3, i3, s3, o3⟩
  have a3 := X2.out.2.keep s3 hnk
  have FN := fine_any o3 i3 bs.length
  have z3 := a3.get (i := 0) rfl
  have z31 := a3.get (i := 1) rfl
  have X3 := Lib.hid (And.intro i3 (X2.out.1.ofNo.trans s3))
  clear NM i3 s3 o3 a3 z0
  go_wp2_with fail
  with_reducible refine FN.mono ?_
  rintro e w4 ⟨rfl, c4, s4, o4⟩
  have MY := HB.out.2 w4
  have MU := mmust_yes w4 3 (a : Int)
  have X4 := Lib.hid (And.intro (X3.out.1.kn s4) (And.intro (X3.out.2.trans s4.ofNo) o4))
  clear FN s4 o4 z3 z31
  rcases hmf with rfl | rfl
  · go_wp2_with fail
    with_reducible refine MY.mono ?_
    rintro e w5 ⟨rfl, rfl⟩
    go_wp2_with fail
    with_reducible refine MU.mono ?_
    rintro e w5 ⟨rfl, rfl⟩
    go_wp2_with fail
    go_ret
    exact ⟨rfl, c4, X4.out⟩
  · go_wp2_with fail
    with_reducible refine MY.mono ?_
    rintro e w5 ⟨rfl, rfl⟩
    go_wp2_with fail
    with_reducible refine MU.mono ?_
    rintro e w5 ⟨rfl, rfl⟩
    go_wp2_with fail
    go_ret
    exact ⟨rfl, c4, X4.out⟩
end
end Go.Proofs.YtgcobbapaaihiaaGreat

set_option linter.unusedVariables false
set_option linter.unusedSimpArgs false
namespace Go.Proofs.YtgcobbapaaihiaaGreat
open Go.RowKit

/-- A message's cells that is a request. -/
def zeroAC : List Value := .int .i64 0 :: zeroBC
def msgA (kind id h : Int) : List Value := .int .i64 kind :: .int .i64 id :: .int .i64 h :: zeroAC
theorem zeroM_zero : zeroIs Tryz.prog 72 (msgA 0 0 0) := by unfold zeroIs; kernel_rfl
theorem info_msg : (Tryz.prog.info? 72).map (·.size) = some 170 := by kernel_rfl

section
variable {P : Program}
/-- A load of many cells, as a step of a region that draws its order. -/
theorem step_load {ops : Array Oper} {o : Oper} {a : Act} {w : World} {K : Act → World → Prop} {Q : Exit → Act → World → Prop} {E : Prop} (hgd : o.guard = none) {dd : Option Tmp} (hdd : o.dst = dd) (ty : TypeId) (x : Operand) (ho : o.op = .load ty x)
    (b off : Nat) (hx : a.eval x = .pointer (some ⟨b, off, none⟩)) (cs : List Value) (d : TypeDesc) (hc : w.rangeAt b off cs)
    (hu : P.underlying ty = some d) (hd : d.isRow = true) (hi : (P.info? ty).map (·.size) = some cs.length)
    (h : K (a.put dd (.agg cs.toArray)) w) : if Region.wanted o (yielded ops a.tmps) = true then Oper.wp P o a w K Q else E := by
  subst hdd
  rw [if_pos (by simp [Region.wanted, hgd])]
  exact wp_load_mid ty x ho b off hx cs d hc hu hd hi h
end

/-- Two results: two cells of many cells. -/
theorem results_cells2 {fn : Func} {p q : Tmp} {ty ty2 : TypeId} (h : fn.results = #[.cell p ty, .cell q ty2]) (tmps : Array Value) (W : World) (b b2 : Nat) (cs cs2 : List Value) (d d2 : TypeDesc) (hp : tmps[p]? = some (.pointer (some ⟨b, 0, none⟩))) (hq : tmps[q]? = some (.pointer (some ⟨b2, 0, none⟩)))
    (hc : W.rangeAt b 0 cs) (hu : Tryz.prog.underlying ty = some d) (hd : d.isRow = true) (hi : (Tryz.prog.info? ty).map (·.size) = some cs.length)
    (hc2 : W.rangeAt b2 0 cs2) (hu2 : Tryz.prog.underlying ty2 = some d2) (hd2 : d2.isRow = true) (hi2 : (Tryz.prog.info? ty2).map (·.size) = some cs2.length) :
    (results fn tmps).run Tryz.prog W = .ok (.tuple #[.agg cs.toArray, .agg cs2.toArray]) W := by
  have h1 := run_loadVar_mid W b 0 ty cs d hc hu hd hi
  have h2 := run_loadVar_mid W b2 0 ty2 cs2 d2 hc2 hu2 hd2 hi2
  have hp' : tmps[p]?.getD undef = .pointer (some ⟨b, 0, none⟩) := by rw [hp]; rfl
  have hq' : tmps[q]?.getD undef = .pointer (some ⟨b2, 0, none⟩) := by rw [hq]; rfl
  simp [results, h, hp', hq', asAddr, h1, h2]

section
variable {c : Col} {w : World}
theorem dec1_idle (p q : Value) (w : World) :
    CallsD Tryz.prog 48 #[p, q] .returning w fun e u' w' => e = .returned (.tuple #[]) ∧ u' = .returning ∧ w' = w := by
  refine callsD_of_wpS Tryz.func48 rfl fun c₀ cs hu => ?_
  apply wpS_seq
  apply wpS_region
  simp [wpOpsS, go_sem, recoverD, hu, Tryz.ntmps48, Exit.thenS]
  apply wpS_seq
  apply wpS_region
  simp [wpOpsS, go_sem, Exit.thenS]
  refine wpS_cond (t := false) (by simp [Act.eval, Array.replicate]) ?_
  simp only [Bool.false_eq_true, if_false]
  refine wpS_of_wp (wp_skip ?_)
  cases c₀
  simp_all [bodyPostS, results, Tryz.results48]

set_option maxRecDepth 100000 in
set_option maxHeartbeats 3200000 in
theorem decodeAsk_ok (hok : Ok c w) (id h : Int) (hid : idB id = true) (hh : heightB h = true) {kx : Nat} {v : Value} (hv : Sl TByte c kx 0 w v (encA id h)) :
    Calls Tryz.prog 33 #[v] w fun r w' => r = .returned (.tuple #[.agg (msgA 1 id h).toArray, .agg #[.int .i64 0, .int .i64 0]]) ∧ ∃ c', Step No c w c' w' ∧ Ok c' w' := by
  obtain ⟨q, hq, hqc⟩ := hok.top kx
  have hq0 : q ≠ 0 := by omega
  have hnk : ¬ One q 0 := fun (e : 0 = q) => hq0 e.symm
  obtain ⟨bs, hbs⟩ : ∃ bs, encA id h = bs := ⟨_, rfl⟩
  have hbl : bs.length ≤ 27 := by have := numB_len 1; have := numB_len id.toNat; have := numB_len h.toNat; rw [← hbs]; simp [encA]; omega
  rw [hbs] at hv
  obtain ⟨am, om, sm⟩ := newAt hok (msgA 0 0 0) 72 (q + 1)
  obtain ⟨af, of_, sf⟩ := newAt om [.int .i64 0, .int .i64 0] 74 (q + 2)
  rw [World.size_alloc] at af of_ sf
  obtain ⟨mb, hmb⟩ : ∃ b, w.heap.size = b := ⟨_, rfl⟩
  obtain ⟨ZM, hZM⟩ : ∃ Z, msgA 0 0 0 = Z := ⟨_, rfl⟩
  obtain ⟨W1, hW1⟩ : ∃ W, (w.alloc (.cells ZM.toArray 72)).alloc (.cells #[.int .i64 0, .int .i64 0] 74) = W := ⟨_, rfl⟩
  have hz := zeroM_zero
  rw [hZM] at hz
  have X1 : RowKit.Hid (∃ c1, At c1 W1 mb (q + 1) (msgA 0 0 0) ∧ At c1 W1 (mb + 1) (q + 2) [.int .i64 0, .int .i64 0] ∧ Sl TByte c1 kx 0 W1 v bs ∧ Step No c w c1 W1 ∧ Ok c1 W1) := Lib.hid ⟨_, by
    rw [← hW1, ← hZM, ← hmb]; exact ⟨am.keep sf (fun h => h), af, (hv.kn sm).kn sf, sm.trans sf, of_⟩⟩
  obtain ⟨va, vd, rfl, _⟩ := hv.form
  have HZ := Lib.hid (And.intro hz (And.intro hbs (And.intro hid hh)))
  have M1 := mmust_yes W1 4 65536
  have hble : (bs.length : Int) ≤ 65536 := by omega
  clear am om sm af of_ sf hv hok hz hbs hid hh hZM
  go_enter_defers Tryz.func33, Tryz.ntmps33
  go_wp2_with (refine wpList_alloc_zero rfl (some 2) rfl 72 rfl HZ.out.1 ?_)
  (try simp only [World.size_alloc])
  (try rw [hmb])
  (try rw [hW1])
  with_reducible refine M1.mono ?_
  rintro e w1 ⟨rfl, rfl⟩
  clear M1
  obtain ⟨c1, am, af, sv, s1, o1⟩ := X1.out
  have NR := newReader_any o1 sv (by omega) q
  have X2 := Lib.hid (And.intro am (And.intro af (And.intro sv s1)))
  clear X1 am af sv s1 o1
  go_wp2_with fail
  with_reducible refine NR.mono ?_
  rintro e w2 ⟨p, rfl, c2, i2, s2, o2, _⟩
  obtain ⟨b4, hb4⟩ : ∃ b, w2.heap.size = b := ⟨_, rfl⟩
  have s3 : Step No c2 w2 c2 (w2.alloc (.cells #[.pointer (some ⟨p, 0, none⟩), .int .i64 bs.length] 115)) := Step.refl.alloc _
  have a3 := At.new0 o2 [.pointer (some ⟨p, 0, none⟩), .int .i64 bs.length] 115
  have o3 := o2.alloc (.cells #[.pointer (some ⟨p, 0, none⟩), .int .i64 bs.length] 115)
  have am3 := (X2.out.1.keep s2 (fun h => h)).keep s3 (fun h => h)
  have af3 := (X2.out.2.1.keep s2 (fun h => h)).keep s3 (fun h => h)
  have i3 := i2.kn s3
  rw [hb4] at a3
  obtain ⟨W3, hW3⟩ : ∃ W, w2.alloc (.cells #[.pointer (some ⟨p, 0, none⟩), .int .i64 bs.length] 115) = W := ⟨_, rfl⟩
  rw [hW3] at s3 a3 o3 am3 af3 i3
  have NK := Num_any o3 i3 hq0 1 (by omega) (rest := numB id.toNat ++ numB h.toNat) (by rw [List.drop_zero, ← HZ.out.2.1]; rfl)
  have y0 := a3.get (i := 0) rfl
  have X3 := Lib.hid (And.intro am3 (And.intro af3 (And.intro a3 ((X2.out.2.2.2.trans s2).trans s3))))
  clear NR X2 i2 s2 o2 s3 a3 o3 am3 af3 i3
  go_wp2_with fail
  (try rw [hb4])
  (try rw [hW3])
  refine NK.mono ?_
  rintro e w4 ⟨rfl, c4, i4, s4, o4⟩
  have am4 := X3.out.1.keep s4 (show ¬ q + 1 = q by omega)
  have af4 := X3.out.2.1.keep s4 (show ¬ q + 2 = q by omega)
  have a4 := X3.out.2.2.1.keep s4 hnk
  -- Kind
  have z0 : w4.cell? ⟨mb, 0, none⟩ = some (.int .i64 0) := am4.get (i := 0) rfl
  have zf := o4.soft mb 0 (by rw [am4.col]; exact Nat.succ_ne_zero q)
  have am5 : At c4 (w4.setCell ⟨mb, 0, none⟩ (.int .i64 1)) mb (q + 1) (msgA 1 0 0) := am4.setN (i := 0) (by simp [msgA]) (.int .i64 1)
  have s5 : Step (One (q + 1)) c4 w4 c4 (w4.setCell ⟨mb, 0, none⟩ (.int .i64 1)) := (Step.refl (K := One (q + 1))).setCell (a := ⟨mb, 0, none⟩) (.inr am4.col) _
  have o5 := o4.setCell ⟨mb, 0, none⟩ (.int .i64 1)
  have i5 := i4.keep s5 (show ¬ q = q + 1 by omega) (show ¬ 0 = q + 1 by omega)
  have af5 := af4.keep s5 (show ¬ q + 2 = q + 1 by omega)
  have a5 := a4.keep s5 (show ¬ 0 = q + 1 by omega)
  obtain ⟨W5, hW5⟩ : ∃ W, w4.setCell ⟨mb, 0, none⟩ (.int .i64 1) = W := ⟨_, rfl⟩
  rw [hW5] at am5 s5 o5 i5 af5 a5
  have FN := fine_any o5 i5 bs.length
  have y50 := a5.get (i := 0) rfl
  have y51 := a5.get (i := 1) rfl
  have X5 := Lib.hid (And.intro am5 (And.intro af5 (And.intro a5 (And.intro i5 ((((X3.out.2.2.2.ofNo (K := fun j => q ≤ j)).trans (s4.mono fun j (e : j = q) => by omega)).trans (s5.mono fun j (e : j = q + 1) => by omega)))))))
  clear NK X3 i4 s4 o4 am4 af4 a4 am5 af5 a5 i5 s5 o5 y0
  go_wp2_with fail
  (try rw [hW5])
  with_reducible refine FN.mono ?_
  rintro e w6 ⟨rfl, c6, s6, o6⟩
  have am6 := X5.out.1.keep s6 (fun h => h)
  have af6 := X5.out.2.1.keep s6 (fun h => h)
  have a6 := X5.out.2.2.1.keep s6 (fun h => h)
  have i6 := X5.out.2.2.2.1.kn s6
  have hb1 : bs.drop (0 + (numB 1).length) = numB id.toNat ++ numB h.toNat := by rw [Nat.zero_add, ← HZ.out.2.1, encA, List.drop_left]
  have hidn : ((id.toNat : Nat) : Int) = id ∧ id.toNat < 9223372036854775808 := by have := HZ.out.2.2.1; simp only [idB, Bool.and_eq_true, decide_eq_true_eq] at this; omega
  have hhn : ((h.toNat : Nat) : Int) = h ∧ h.toNat < 9223372036854775808 := by have := HZ.out.2.2.2; simp only [heightB, Bool.and_eq_true, decide_eq_true_eq] at this; omega
  have NI := mnum_any o6 i6 hq0 id.toNat hidn.2 hb1 (may := 54) (fun W => by rw [hidn.1]; have := mnumber_any id W; rw [HZ.out.2.2.1] at this; exact this) (.inl rfl)
  rw [hidn.1] at NI
  have MK := mmust_yes w6 5 0
  have y60 := a6.get (i := 0) rfl
  have y61 := a6.get (i := 1) rfl
  have z6 : w6.cell? ⟨mb, 0, none⟩ = some (.int .i64 1) := am6.get (i := 0) rfl
  have X6 := Lib.hid (And.intro am6 (And.intro af6 (And.intro a6 (And.intro (X5.out.2.2.2.2.trans s6.ofNo) (And.intro hidn hhn)))))
  clear FN X5 s6 o6 am6 af6 a6 i6 hb1 hidn hhn y50 y51 z0 zf
  go_wp2_with fail
  with_reducible refine MK.mono ?_
  rintro e w7 ⟨rfl, rfl⟩
  clear MK
  go_wp2_with fail
  with_reducible refine NI.mono ?_
  rintro e w7 ⟨rfl, c7, i7, s7, o7⟩
  have am7 := X6.out.1.keep s7 (show ¬ q + 1 = q by omega)
  have af7 := X6.out.2.1.keep s7 (show ¬ q + 2 = q by omega)
  have a7 := X6.out.2.2.1.keep s7 hnk
  have hb2 : bs.drop (0 + (numB 1).length + (numB id.toNat).length) = numB h.toNat ++ [] := by rw [Nat.zero_add, ← HZ.out.2.1, encA, ← List.append_assoc, ← List.length_append, List.drop_left, List.append_nil]
  have NH := mnum_any o7 i7 hq0 h.toNat X6.out.2.2.2.2.2.2 hb2 (may := 55) (fun W => by rw [X6.out.2.2.2.2.2.1]; have := mheight_any h W; rw [HZ.out.2.2.2] at this; exact this) (.inr rfl)
  rw [X6.out.2.2.2.2.2.1] at NH
  have y70 := a7.get (i := 0) rfl
  have y71 := a7.get (i := 1) rfl
  have z7 : w7.cell? ⟨mb, 0, none⟩ = some (.int .i64 1) := am7.get (i := 0) rfl
  have X7 := Lib.hid (And.intro am7 (And.intro af7 (And.intro a7 (X6.out.2.2.2.1.trans (s7.mono fun j (e : j = q) => by omega)))))
  clear NI X6 s7 o7 am7 af7 a7 i7 hb2 y60 y61 z6
  go_wp2_with fail
  with_reducible refine NH.mono ?_
  rintro e w8 ⟨rfl, c8, i8, s8, o8⟩
  have am8 := X7.out.1.keep s8 (show ¬ q + 1 = q by omega)
  have af8 := X7.out.2.1.keep s8 (show ¬ q + 2 = q by omega)
  have a8 := X7.out.2.2.1.keep s8 hnk
  have z81 : w8.cell? ⟨mb, 1, none⟩ = some (.int .i64 0) := am8.get (i := 1) rfl
  have z82 : w8.cell? ⟨mb, 2, none⟩ = some (.int .i64 0) := am8.get (i := 2) rfl
  have zf1 := o8.soft mb 1 (by rw [am8.col]; exact Nat.succ_ne_zero q)
  have zf2 := o8.soft mb 2 (by rw [am8.col]; exact Nat.succ_ne_zero q)
  have am9 : At c8 ((w8.setCell ⟨mb, 1, none⟩ (.int .i64 id)).setCell ⟨mb, 2, none⟩ (.int .i64 h)) mb (q + 1) (msgA 1 id h) := (am8.setN (i := 1) (by simp [msgA]) (.int .i64 id)).setN (i := 2) (by simp [msgA]) (.int .i64 h)
  have s9 : Step (One (q + 1)) c8 w8 c8 ((w8.setCell ⟨mb, 1, none⟩ (.int .i64 id)).setCell ⟨mb, 2, none⟩ (.int .i64 h)) := ((Step.refl (K := One (q + 1))).setCell (a := ⟨mb, 1, none⟩) (.inr am8.col) _).setCell (a := ⟨mb, 2, none⟩) (.inr am8.col) _
  have o9 := (o8.setCell ⟨mb, 1, none⟩ (.int .i64 id)).setCell ⟨mb, 2, none⟩ (.int .i64 h)
  have i9 := i8.keep s9 (show ¬ q = q + 1 by omega) (show ¬ 0 = q + 1 by omega)
  have af9 := af8.keep s9 (show ¬ q + 2 = q + 1 by omega)
  have a9 := a8.keep s9 (show ¬ 0 = q + 1 by omega)
  obtain ⟨W9, hW9⟩ : ∃ W, (w8.setCell ⟨mb, 1, none⟩ (.int .i64 id)).setCell ⟨mb, 2, none⟩ (.int .i64 h) = W := ⟨_, rfl⟩
  rw [hW9] at am9 s9 o9 i9 af9 a9
  have EN := end_any o9 i9
  have hend : endF bs (0 + (numB 1).length + (numB id.toNat).length + (numB h.toNat).length) (0, 0) = (0, 0) := by
    unfold endF
    rw [if_neg]
    intro hx
    have := hx.2
    rw [← HZ.out.2.1] at this
    simp [encA] at this
    omega
  rw [hend] at EN
  have y90 := a9.get (i := 0) rfl
  have X9 := Lib.hid (And.intro am9 (And.intro af9 (And.intro ((X7.out.2.2.2.trans (s8.mono fun j (e : j = q) => by omega)).trans (s9.mono fun j (e : j = q + 1) => by omega)) trivial)))
  clear NH X7 i8 s8 o8 am8 af8 a8 am9 s9 o9 i9 af9 a9 hend y70 y71 z7
  go_wp2_with fail
  (try rw [hW9])
  with_reducible refine EN.mono ?_
  rintro e wA ⟨rfl, cA, sA, oA⟩
  have amA := X9.out.1.keep sA (fun h => h)
  have afA := X9.out.2.1.keep sA (fun h => h)
  have zA0 : wA.cell? ⟨mb + 1, 0, none⟩ = some (.int .i64 0) := afA.get (i := 0) rfl
  have zA1 : wA.cell? ⟨mb + 1, 1, none⟩ = some (.int .i64 0) := afA.get (i := 1) rfl
  have zAf0 := oA.soft (mb + 1) 0 (by rw [afA.col]; exact Nat.succ_ne_zero _)
  have zAf1 := oA.soft (mb + 1) 1 (by rw [afA.col]; exact Nat.succ_ne_zero _)
  have afB : At cA ((wA.setCell ⟨mb + 1, 0, none⟩ (.int .i64 0)).setCell ⟨mb + 1, 1, none⟩ (.int .i64 0)) (mb + 1) (q + 2) [.int .i64 0, .int .i64 0] := (afA.setN (i := 0) (by simp) (.int .i64 0)).setN (i := 1) (by simp) (.int .i64 0)
  have sB : Step (One (q + 2)) cA wA cA ((wA.setCell ⟨mb + 1, 0, none⟩ (.int .i64 0)).setCell ⟨mb + 1, 1, none⟩ (.int .i64 0)) := ((Step.refl (K := One (q + 2))).setCell (a := ⟨mb + 1, 0, none⟩) (.inr afA.col) _).setCell (a := ⟨mb + 1, 1, none⟩) (.inr afA.col) _
  have oB := (oA.setCell ⟨mb + 1, 0, none⟩ (.int .i64 0)).setCell ⟨mb + 1, 1, none⟩ (.int .i64 0)
  have amB := amA.keep sB (show ¬ q + 1 = q + 2 by omega)
  obtain ⟨WB, hWB⟩ : ∃ W, (wA.setCell ⟨mb + 1, 0, none⟩ (.int .i64 0)).setCell ⟨mb + 1, 1, none⟩ (.int .i64 0) = W := ⟨_, rfl⟩
  rw [hWB] at afB sB oB amB
  have KB : (fun W : World => W.cell? ⟨mb + 1, 0, none⟩ = some (.int .i64 0) ∧ W.cell? ⟨mb + 1, 1, none⟩ = some (.int .i64 0)) WB.drew := ⟨afB.get (i := 0) rfl, afB.get (i := 1) rfl⟩
  have XB := Lib.hid (And.intro amB (And.intro afB (And.intro ((X9.out.2.2.1.trans sA.ofNo).trans (sB.mono fun j (e : j = q + 2) => by omega)) oB)))
  clear EN X9 sA oA amA afA afB sB oB amB y90 z81 z82 zf1 zf2
  go_wp2_with fail
  (try rw [hWB])
  refine wp_region_noPanic ?_
  refine region_planM (fun W => W.cell? ⟨mb + 1, 0, none⟩ = some (.int .i64 0) ∧ W.cell? ⟨mb + 1, 1, none⟩ = some (.int .i64 0)) (fun _ => true) (by kernel_rfl) ?_
  refine tk2 0 _ 69 rfl rfl KB ?_
  refine tk2 1 _ 70 rfl rfl KB ?_
  refine tk2 2 _ 71 rfl rfl KB ?_
  refine tk2 3 _ 72 rfl rfl KB ?_
  refine tk2 4 _ 73 rfl rfl KB ?_
  refine tk2 5 _ 74 rfl rfl KB ?_
  refine tk2 6 _ 75 rfl rfl KB ?_
  refine wpAnyM.one (i := 7) (by kernel_rfl) rfl (fun KQ hK => ?_)
  go_simp
  refine (mmust_yes _ 0 0).mono ?_
  rintro e w5 ⟨rfl, rfl⟩
  go_simp
  refine hK.out _ _ (fun _ => KB) ?_
  clear hK KQ
  (try simp only [Act.put, List.setIfInBounds_toArray, List.set_cons_zero, List.set_cons_succ])
  refine wpAnyM.done (by kernel_rfl) (noPanic_normal ?_) _
  go_wp2_with fail
  -- the end
  have amC := XB.out.1.keep (Step.rf.drewN (K := No) 2) (fun h => h)
  have afC := XB.out.2.1.keep (Step.rf.drewN (K := No) 2) (fun h => h)
  have oC := XB.out.2.2.2.drewN 2
  have hMl : (msgA 1 id h).length = 170 := rfl
  have hM1 : ∀ v ∈ msgA 1 id h, v.oneCell' = true := by
    intro v hv
    simp only [msgA, zeroAC, List.mem_cons] at hv
    rcases hv with rfl | rfl | rfl | rfl | hv
    · rfl
    · rfl
    · rfl
    · rfl
    · exact bloC_one (zeroB_at c 0 w) v hv
  have hi0 : (Tryz.prog.info? 72).map (·.size) = some (msgA 1 id h).length := by rw [info_msg, hMl]
  have hi1 : (Tryz.prog.info? 72).map (·.size) = some (msgA 1 id h).toArray.size := by rw [info_msg]; simp [hMl]
  have ht0 := amC.there (o := 0) (n := (msgA 1 id h).toArray.size) oC (Nat.succ_ne_zero q) (by simp)
  obtain ⟨_, amD⟩ := amC.st oC (Nat.succ_ne_zero q) (ty := 72) (us := msgA 1 id h) rfl hi0 hM1
  have hMall := all_oneCell_toArray hM1
  obtain ⟨M, hM⟩ : ∃ M, msgA 1 id h = M := ⟨_, rfl⟩
  rw [hM] at amC hi0 hi1 ht0 amD hMall
  have sD : Step (One (q + 1)) cA (WB.drewN 2) cA ((WB.drewN 2).setCells mb 0 M) := Step.setCells (K := One (q + 1)) (.inr amC.col) _ _ _ Step.refl
  have afD := afC.keep sD (show ¬ q + 2 = q + 1 by omega)
  have oD := Ok.setCells (b := mb) M 0 _ oC
  have zD0 := afD.get (i := 0) rfl
  have zD1 := afD.get (i := 1) rfl
  have zDf0 : (WB.drew.drew.setCells mb 0 M).frozen? ⟨mb + 1, 0, none⟩ = false := oD.soft (mb + 1) 0 (by rw [afD.col]; exact Nat.succ_ne_zero _)
  have zDf1 : (WB.drew.drew.setCells mb 0 M).frozen? ⟨mb + 1, 1, none⟩ = false := oD.soft (mb + 1) 1 (by rw [afD.col]; exact Nat.succ_ne_zero _)
  have KC : (fun W : World => W.cell? ⟨mb + 1, 0, none⟩ = some (.int .i64 0) ∧ W.cell? ⟨mb + 1, 1, none⟩ = some (.int .i64 0)) WB.drew.drew := ⟨afC.get (i := 0) rfl, afC.get (i := 1) rfl⟩
  have sE : Step (One (q + 2)) cA ((WB.drewN 2).setCells mb 0 M) cA ((((WB.drewN 2).setCells mb 0 M).setCell ⟨mb + 1, 0, none⟩ (.int .i64 0)).setCell ⟨mb + 1, 1, none⟩ (.int .i64 0)) := ((Step.refl (K := One (q + 2))).setCell (a := ⟨mb + 1, 0, none⟩) (.inr afD.col) _).setCell (a := ⟨mb + 1, 1, none⟩) (.inr afD.col) _
  have amE := amD.keep sE (show ¬ q + 1 = q + 2 by omega)
  have afE : At cA ((((WB.drewN 2).setCells mb 0 M).setCell ⟨mb + 1, 0, none⟩ (.int .i64 0)).setCell ⟨mb + 1, 1, none⟩ (.int .i64 0)) (mb + 1) (q + 2) [.int .i64 0, .int .i64 0] := (afD.setN (i := 0) (by simp) (.int .i64 0)).setN (i := 1) (by simp) (.int .i64 0)
  have oE := (oD.setCell ⟨mb + 1, 0, none⟩ (.int .i64 0)).setCell ⟨mb + 1, 1, none⟩ (.int .i64 0)
  have sAll : Step No c w cA ((((WB.drewN 2).setCells mb 0 M).setCell ⟨mb + 1, 0, none⟩ (.int .i64 0)).setCell ⟨mb + 1, 1, none⟩ (.int .i64 0)) :=
    (((XB.out.2.2.1.drewN 2).trans (sD.mono fun j (e : j = q + 1) => by omega)).trans (sE.mono fun j (e : j = q + 2) => by omega)).drop fun b _ e => by have := hqc b; omega
  have FL := Lib.hid (And.intro amC.cells (And.intro hi0 (And.intro ht0 (And.intro hi1 (And.intro hMall (And.intro amE (And.intro afE (And.intro sAll (And.intro oE hM)))))))))
  clear XB amC afC oC hMl hM1 hi0 hi1 ht0 amD hMall sD afD oD sE amE afE oE sAll hM KB
  refine wp_region_noPanic ?_
  refine region_planM (fun W => W.cell? ⟨mb + 1, 0, none⟩ = some (.int .i64 0) ∧ W.cell? ⟨mb + 1, 1, none⟩ = some (.int .i64 0)) (fun i => !([3] : List Nat).contains i) (by kernel_rfl) ?_
  refine tk2 1 _ 78 rfl rfl KC ?_
  refine wpAnyM.one (i := 0) (by kernel_rfl) rfl (fun KQ hK => ?_)
  refine step_load rfl (dd := some 77) rfl 72 _ rfl mb 0 rfl M _ FL.out.1 Tryz.underlying72 rfl FL.out.2.1 ?_
  refine hK.out _ _ (fun _ => KC) ?_
  clear hK KQ
  (try simp only [Act.put, List.setIfInBounds_toArray, List.set_cons_zero, List.set_cons_succ])
  refine wpAnyM.one (i := 2) (by kernel_rfl) rfl (fun KQ hK => ?_)
  refine step_store rfl 72 _ _ rfl mb 0 M.toArray rfl rfl FL.out.2.2.1 FL.out.2.2.2.1 FL.out.2.2.2.2.1 ?_
  simp only [List.toList_toArray]
  have KD : (fun W : World => W.cell? ⟨mb + 1, 0, none⟩ = some (.int .i64 0) ∧ W.cell? ⟨mb + 1, 1, none⟩ = some (.int .i64 0)) (WB.drew.drew.setCells mb 0 M) := ⟨zD0, zD1⟩
  refine hK.out _ _ (fun _ => KD) ?_
  clear hK KQ
  (try simp only [Act.put, List.setIfInBounds_toArray, List.set_cons_zero, List.set_cons_succ])
  refine wpAnyM.one (i := 3) (by kernel_rfl) rfl (fun KQ hK => ?_)
  go_simp
  refine hK.out _ _ (fun h => absurd h (by decide)) ?_
  clear hK KQ
  (try simp only [Act.put, List.setIfInBounds_toArray, List.set_cons_zero, List.set_cons_succ])
  refine wpAnyM.done (by kernel_rfl) (noPanic_normal ?_) _
  go_wp2_with fail
  refine leaves_cons (f := 48) (args := #[.pointer (some ⟨mb, 0, none⟩), .pointer (some ⟨mb + 1, 0, none⟩)]) (by simp) (by simp [go_sem]) ?_
  refine (dec1_idle _ _ _).mono ?_
  rintro e u' w'' ⟨rfl, rfl, rfl⟩
  obtain ⟨_, f2, _, _, _, f6, f7, f8, f9, f10⟩ := FL.out
  exact ⟨_, results_cells2 rfl _ _ mb (mb + 1) M _ _ _ rfl rfl f6.cells Tryz.underlying72 rfl f2 f7.cells Tryz.underlying74 rfl info_fault, by rw [f10], cA, f8, f9⟩
end
end Go.Proofs.YtgcobbapaaihiaaGreat
