/- ServerKnown, part 24: lemmas, each with its own conditions. -/
import Derived.Test.YtgcobbapaaihiaaGreatSk21
import Derived.Test.YtgcobbapaaihiaaGreatSk22
import Derived.Test.YtgcobbapaaihiaaGreatSk23
import Derived.Defers
import Derived.Recover
import Derived.Laws.Pointers
set_option linter.unusedVariables false
set_option linter.unusedSimpArgs false
namespace Go.Proofs.YtgcobbapaaihiaaGreat
open Go.RowKit

theorem minB_len8 (n : Nat) : (minB n).length ≤ 8 := minF_len 8 n

theorem num_bytes {bs rest : List UInt8} {a n : Nat} (hb : bs.drop a = numB n ++ rest) (ha : a ≤ bs.length) :
    (bs.drop a).take 1 = [UInt8.ofNat (minB n).length] ∧ (bs.drop (a + 1)).take (minB n).length = minB n ∧ a + 1 + (minB n).length ≤ bs.length ∧ bigN [UInt8.ofNat (minB n).length] = (minB n).length := by
  have h8 := minB_len8 n
  refine ⟨by rw [hb]; simp [numB], ?_, ?_, ?_⟩
  · rw [← List.drop_drop, hb]; simp [numB]
  · have := congrArg List.length hb
    rw [List.length_drop] at this
    simp [numB] at this
    omega
  · simp [bigN, bigF]; omega

section
variable {c : Col} {w : World}

set_option maxRecDepth 100000 in
set_option maxHeartbeats 1600000 in
theorem rnum_any (hok : Ok c w) {k p : Nat} {bs : List UInt8} {a : Nat} {f : Int × Int} (h : IsRd c k w p bs a f) (hk0 : k ≠ 0) (n : Nat) (hn : n < 9223372036854775808) {rest : List UInt8} (hb : bs.drop a = numB n ++ rest) (at0 : Int) :
    Calls Tryz.prog 97 #[.pointer (some ⟨p, 0, none⟩), .int .i64 at0] w fun r w' => r = .returned (.int .i64 n) ∧
      ∃ c', IsRd c' k w' p bs (a + (numB n).length) f ∧ Step (One k) c w c' w' ∧ Ok c' w' := by
  obtain ⟨b1, b2, b3, b4⟩ := num_bytes hb h.le
  have hm8 := minB_len8 n
  have hbn : bigN (minB n) = n := bigN_min 8 n (by omega)
  have hfst : firstB 1 (minB n) ≠ 0 := by
    rcases hm : minB n with _ | ⟨x, l⟩
    · simp [firstB]
    · have := min_head 8 n (by omega) x l hm
      simp only [firstB]
      intro e
      apply this
      exact UInt8.toNat_inj.1 (by simpa using e)
  have hlen : (numB n).length = 1 + (minB n).length := by simp [numB]; omega
  obtain ⟨m, hm⟩ : ∃ m, (minB n).length = m := ⟨_, rfl⟩
  obtain ⟨q, hq, hqc⟩ := hok.spare k
  have hq0 : q ≠ 0 := by omega
  have T1 : Calls Tryz.prog 135 #[.pointer (some ⟨p, 0, none⟩), .int .i64 1, .int .i64 at0, .func (.func 136) #[] #[]] w fun r w' => r = .returned (.int .u64 m) ∧ IsRd c k w' p bs (a + 1) f ∧ Step (One k) c w c w' ∧ Ok c w' := by
    have := takeN_any hok h hk0 1 (by omega) (by omega) at0
    rw [b1, b4, hm] at this
    exact this
  rw [hm] at b2 b3 hm8 hlen
  have hmi : (m : Int) ≤ 8 := by omega
  have hwm : IntKind.i64.wrap (m : Int) = (m : Int) := IntWalk.i64_in _ (by omega)
  have hwn : IntKind.i64.wrap (n : Int) = (n : Int) := IntWalk.i64_in _ (by omega)
  have hni : (n : Int) ≤ 9223372036854775807 := by omega
  have hfs : (firstB 1 (minB n) == 0) = false := beq_eq_false_iff_ne.2 hfst
  obtain ⟨fb, hfb⟩ : ∃ fb, firstB 1 (minB n) = fb := ⟨_, rfl⟩
  have HB := Lib.hid (And.intro b2 (And.intro b3 (And.intro hbn (And.intro hlen (And.intro hqc hfb)))))
  rw [hfb] at hfs
  have hfs2 : ¬ fb = 0 := by rw [← hfb]; exact hfst
  have hfs3 : (fb != 0) = true := by rw [bne_iff_ne]; exact hfs2
  clear h hok b1 b2 b3 b4 hbn hfst hm hlen hqc hb hfb
  go_enter Tryz.func97, Tryz.ntmps97
  go_wp2_with fail
  with_reducible refine T1.mono ?_
  rintro e w1 ⟨rfl, i1, s1, o1⟩
  obtain ⟨a2, o2, s2⟩ := newAt o1 [.int .i64 m] 3 q
  obtain ⟨a3, o3, s3⟩ := newAt o2 [.int .u8 1] 5 q
  rw [World.size_alloc] at a3 o3 s3
  have M1 := must_yes (w1.alloc (.cells #[.int .i64 m] 3)) 5 at0
  have a23 := a2.keep s3 (fun h => h)
  have T2 := takeF_any o3 ((i1.kn s2).kn s3) hk0 m HB.out.2.1 hm8 a23 a3 hq0 (by omega) at0
  rw [HB.out.1, HB.out.2.2.1, HB.out.2.2.2.2.2] at T2
  have z5 := a23.c0
  have z2 := a2.c0
  have S1 := Lib.hid (s1.trans (s2.trans s3).ofNo)
  clear T1 i1 s1 o1 a2 o2 s2 a3 o3 s3 a23
  go_wp2_with fail
  with_reducible refine M1.mono ?_
  rintro e w2 ⟨rfl, rfl⟩
  go_wp2_with fail
  with_reducible refine T2.mono ?_
  rintro e w3 ⟨rfl, a6, i3, s3, o3, _⟩
  have z6 := a6.c0
  have M2 := must_yes w3 5 at0
  have SX := Lib.hid (And.intro i3 (And.intro s3 o3))
  clear T2 M1 z5 z2 a6 i3 s3 o3
  go_wp2_with fail
  with_reducible refine M2.mono ?_
  rintro e w4 ⟨rfl, rfl⟩
  go_wp2_with fail
  go_ret
  obtain ⟨i3, s3, o3⟩ := SX.out
  obtain ⟨b2, b3, hbn, hlen, hqc, hfb⟩ := HB.out
  refine ⟨rfl, _, by rw [hlen, ← Nat.add_assoc]; exact i3, ?_, o3⟩
  refine ((S1.out.mono (K' := Two k q) fun _ h => .inl h).trans s3).drop fun b _ e => ?_
  rcases e with e | e
  · exact e
  · exact absurd e (hqc b)
end
end Go.Proofs.YtgcobbapaaihiaaGreat

set_option linter.unusedVariables false
set_option linter.unusedSimpArgs false
namespace Go.Proofs.YtgcobbapaaihiaaGreat
open Go.RowKit

theorem caught_idle (p : Nat) (w : World) :
    CallsD Tryz.prog 134 #[.pointer (some ⟨p, 0, none⟩)] .returning w fun e u' w' => e = .returned (.tuple #[]) ∧ u' = .returning ∧ w' = w := by
  refine callsD_of_wpS Tryz.func134 rfl fun c₀ cs hu => ?_
  apply wpS_seq
  apply wpS_region
  simp [wpOpsS, go_sem, recoverD, hu, Tryz.ntmps134, Exit.thenS]
  apply wpS_seq
  apply wpS_region
  simp [wpOpsS, go_sem, Exit.thenS]
  refine wpS_cond (t := false) (by simp [Act.eval, Array.replicate]) ?_
  simp only [Bool.false_eq_true, if_false]
  refine wpS_of_wp (wp_skip ?_)
  cases c₀
  simp_all [bodyPostS, results, Tryz.results134]
end Go.Proofs.YtgcobbapaaihiaaGreat

set_option linter.unusedVariables false
set_option linter.unusedSimpArgs false
namespace Go.Proofs.YtgcobbapaaihiaaGreat
open Go.RowKit

section
variable {c : Col} {w : World}

set_option maxRecDepth 100000 in
set_option maxHeartbeats 800000 in
theorem readsNum (hok : Ok c w) {k p : Nat} {bs : List UInt8} {a : Nat} {f : Int} (h : IsRd c k w p bs a (0, f)) (hk0 : k ≠ 0) (n : Nat) (hn : n < 9223372036854775808) {rest : List UInt8} (hb : bs.drop a = numB n ++ rest) :
    Calls Tryz.prog 96 #[.pointer (some ⟨p, 0, none⟩), .func (.func 97) #[.pointer (some ⟨p, 0, none⟩)] #[]] w fun r w' => r = .returned (.int .i64 n) ∧
      ∃ c', IsRd c' k w' p bs (a + (numB n).length) (0, f) ∧ Step (One k) c w c' w' ∧ Ok c' w' := by
  have R := rnum_any hok h hk0 n hn hb a
  obtain ⟨bv, x, ow⟩ := h.row
  have y1 := x.get (i := 1) rfl
  have y2 := x.get (i := 2) rfl
  have y4 := x.get (i := 4) rfl
  clear h x ow hok
  go_enter_defers Tryz.func96, Tryz.ntmps96
  go_wp2_with fail
  with_reducible refine R.mono ?_
  rintro e w1 ⟨rfl, c1, i1, s1, o1⟩
  have X := Lib.hid (And.intro i1 (And.intro s1 o1))
  clear R i1 s1 o1
  go_wp2_with fail
  refine leaves_cons (f := 134) (args := #[.pointer (some ⟨p, 0, none⟩)]) (by simp) (by simp [go_sem]) ?_
  refine (caught_idle p w1).mono ?_
  rintro e u' w'' ⟨rfl, rfl, rfl⟩
  exact ⟨_, results_tmp rfl _ _ _, rfl, c1, X.out⟩

theorem Num_any (hok : Ok c w) {k p : Nat} {bs : List UInt8} {a : Nat} {f : Int} (h : IsRd c k w p bs a (0, f)) (hk0 : k ≠ 0) (n : Nat) (hn : n < 9223372036854775808) {rest : List UInt8} (hb : bs.drop a = numB n ++ rest) :
    Calls Tryz.prog 51 #[.pointer (some ⟨p, 0, none⟩)] w fun r w' => r = .returned (.int .i64 n) ∧
      ∃ c', IsRd c' k w' p bs (a + (numB n).length) (0, f) ∧ Step (One k) c w c' w' ∧ Ok c' w' := by
  have R := readsNum hok h hk0 n hn hb
  have hmf : ∀ (fn : Fn) (first cap : Array Value) (w : World), (Instr.makeFunc fn first cap).run Tryz.prog w = .ok (.func fn first cap) w := fun _ _ _ _ => rfl
  clear h hok
  go_enter Tryz.func51, Tryz.ntmps51
  go_wp2_with fail
  with_reducible refine R.mono ?_
  rintro e w1 ⟨rfl, c1, X⟩
  have HX := Lib.hid X
  clear X R
  go_wp2_with fail
  go_ret
  exact ⟨rfl, c1, HX.out⟩
end
end Go.Proofs.YtgcobbapaaihiaaGreat

set_option linter.unusedVariables false
set_option linter.unusedSimpArgs false
namespace Go.Proofs.YtgcobbapaaihiaaGreat
open Go.RowKit

section
variable {c : Col} {w : World}

set_option maxRecDepth 100000 in
theorem mat_any (hok : Ok c w) {k p : Nat} {bs : List UInt8} {a : Nat} (h : IsRd c k w p bs a (0, 0)) :
    Calls Tryz.prog 56 #[.agg #[.pointer (some ⟨p, 0, none⟩), .int .i64 bs.length]] w fun r w' => r = .returned (.int .i64 a) ∧ ∃ c', Step No c w c' w' ∧ Ok c' w' := by
  have s1 : Step No c w c (w.alloc (.cells #[.pointer (some ⟨p, 0, none⟩), .int .i64 bs.length] 115)) := Step.refl.alloc _
  have a1 := At.new0 hok [.pointer (some ⟨p, 0, none⟩), .int .i64 bs.length] 115
  have o1 := hok.alloc (.cells #[.pointer (some ⟨p, 0, none⟩), .int .i64 bs.length] 115)
  have R := rest_ok ((h.kn s1).kn (Step.rf.drewN 1)) rfl
  have hle := h.le
  have hfew := h.few
  have hw : IntKind.i64.wrap ((bs.length : Int) - ((bs.length : Int) - (a : Int))) = (a : Int) := by rw [IntWalk.i64_in _ (by omega)]; omega
  obtain ⟨W1, hW1⟩ : ∃ W, w.alloc (.cells #[.pointer (some ⟨p, 0, none⟩), .int .i64 bs.length] 115) = W := ⟨_, rfl⟩
  obtain ⟨bx, hbx⟩ : ∃ b, w.heap.size = b := ⟨_, rfl⟩
  have K1 : (fun W : World => W.cell? ⟨bx, 0, none⟩ = some (.pointer (some ⟨p, 0, none⟩)) ∧ W.cell? ⟨bx, 1, none⟩ = some (.int .i64 bs.length)) W1.drew := by rw [← hW1, ← hbx]; exact ⟨a1.get (i := 0) rfl, a1.get (i := 1) rfl⟩
  rw [hW1] at s1 o1 R
  have X := Lib.hid (And.intro s1 o1)
  clear s1 o1 a1 h hok
  go_enter Tryz.func56, Tryz.ntmps56
  go_wp2_with fail
  (try rw [hW1])
  (try rw [hbx])
  refine region_planM (fun W => W.cell? ⟨bx, 0, none⟩ = some (.pointer (some ⟨p, 0, none⟩)) ∧ W.cell? ⟨bx, 1, none⟩ = some (.int .i64 bs.length)) (fun i => !([6] : List Nat).contains i) (by kernel_rfl) ?_
  refine wpAnyM.takeT (i := 0) (v := _) (some 3) rfl rfl (by kernel_rfl) (by kernel_rfl) (by kernel_rfl) (by kernel_rfl) (by kernel_rfl) (fun _ _ _ h => h) (Or.inl ⟨by rfl, fun W hW => by first | (obtain ⟨q0, q1⟩ := hW; go_simp <;> rfl) | (obtain ⟨q0, q1⟩ := hW; go_simp; done)⟩) K1 ?_
  (try simp only [Act.put, List.setIfInBounds_toArray, List.set_cons_zero, List.set_cons_succ])
  refine wpAnyM.takeT (i := 1) (v := _) (some 4) rfl rfl (by kernel_rfl) (by kernel_rfl) (by kernel_rfl) (by kernel_rfl) (by kernel_rfl) (fun _ _ _ h => h) (Or.inl ⟨by rfl, fun W hW => by first | (obtain ⟨q0, q1⟩ := hW; go_simp <;> rfl) | (obtain ⟨q0, q1⟩ := hW; go_simp; done)⟩) K1 ?_
  (try simp only [Act.put, List.setIfInBounds_toArray, List.set_cons_zero, List.set_cons_succ])
  refine wpAnyM.takeT (i := 2) (v := _) (some 5) rfl rfl (by kernel_rfl) (by kernel_rfl) (by kernel_rfl) (by kernel_rfl) (by kernel_rfl) (fun _ _ _ h => h) (Or.inl ⟨by rfl, fun W hW => by first | (obtain ⟨q0, q1⟩ := hW; go_simp <;> rfl) | (obtain ⟨q0, q1⟩ := hW; go_simp; done)⟩) K1 ?_
  (try simp only [Act.put, List.setIfInBounds_toArray, List.set_cons_zero, List.set_cons_succ])
  refine wpAnyM.takeT (i := 3) (v := _) (some 6) rfl rfl (by kernel_rfl) (by kernel_rfl) (by kernel_rfl) (by kernel_rfl) (by kernel_rfl) (fun _ _ _ h => h) (Or.inl ⟨by rfl, fun W hW => by first | (obtain ⟨q0, q1⟩ := hW; go_simp <;> rfl) | (obtain ⟨q0, q1⟩ := hW; go_simp; done)⟩) K1 ?_
  (try simp only [Act.put, List.setIfInBounds_toArray, List.set_cons_zero, List.set_cons_succ])
  refine wpAnyM.one (i := 4) (by kernel_rfl) rfl (fun KQ hK => ?_)
  go_simp
  refine R.mono ?_
  rintro e w2 ⟨rfl, n, rfl⟩
  have X2 := Lib.hid (And.intro (X.out.1.drewN (1 + n)) (X.out.2.drewN (1 + n)))
  go_simp
  refine hK.out _ _ (fun _ => K1) ?_
  clear hK KQ
  (try simp only [Act.put, List.setIfInBounds_toArray, List.set_cons_zero, List.set_cons_succ])
  refine wpAnyM.takeT (i := 5) (v := _) (some 8) rfl rfl (by kernel_rfl) (by kernel_rfl) (by kernel_rfl) (by kernel_rfl) (by kernel_rfl) (fun _ _ _ h => h) (Or.inl ⟨by rfl, fun W hW => by first | (obtain ⟨q0, q1⟩ := hW; go_simp <;> rfl) | (obtain ⟨q0, q1⟩ := hW; go_simp; done)⟩) K1 ?_
  (try simp only [Act.put, List.setIfInBounds_toArray, List.set_cons_zero, List.set_cons_succ])
  refine wpAnyM.one (i := 6) (by kernel_rfl) rfl (fun KQ hK => ?_)
  go_simp
  refine hK.out _ _ (fun h => absurd h (by decide)) ?_
  clear hK KQ
  (try simp only [Act.put, List.setIfInBounds_toArray, List.set_cons_zero, List.set_cons_succ])
  refine wpAnyM.done (by kernel_rfl) ?_ _
  go_wp2_with fail
  go_ret
  exact ⟨rfl, c, X2.out⟩

set_option maxRecDepth 100000 in
set_option maxHeartbeats 1600000 in
theorem fine_any (hok : Ok c w) {k p : Nat} {bs : List UInt8} {a : Nat} (h : IsRd c k w p bs a (0, 0)) (n : Int) :
    Calls Tryz.prog 52 #[.agg #[.pointer (some ⟨p, 0, none⟩), .int .i64 n]] w fun r w' => r = .returned (.tuple #[]) ∧ ∃ c', Step No c w c' w' ∧ Ok c' w' := by
  have s1 : Step No c w c (w.alloc (.cells #[.pointer (some ⟨p, 0, none⟩), .int .i64 n] 115)) := Step.refl.alloc _
  have a1 := At.new0 hok [.pointer (some ⟨p, 0, none⟩), .int .i64 n] 115
  have o1 := hok.alloc (.cells #[.pointer (some ⟨p, 0, none⟩), .int .i64 n] 115)
  have E := end_any o1 (h.kn s1)
  have hle := h.le
  have hfew := h.few
  obtain ⟨W1, hW1⟩ : ∃ W, w.alloc (.cells #[.pointer (some ⟨p, 0, none⟩), .int .i64 n] 115) = W := ⟨_, rfl⟩
  obtain ⟨bx, hbx⟩ : ∃ b, w.heap.size = b := ⟨_, rfl⟩
  have h1 := h.kn s1
  rw [hW1] at s1 o1 E a1 h1
  rw [hbx] at a1
  have y0 := a1.get (i := 0) rfl
  have X1 := Lib.hid (And.intro s1 (And.intro a1 h1))
  clear s1 o1 a1 h hok h1
  by_cases hlt : a < bs.length
  · have he : endF bs a (0, 0) = (4, (a : Int)) := by unfold endF; rw [if_pos ⟨rfl, hlt⟩]
    rw [he] at E
    go_enter Tryz.func52, Tryz.ntmps52
    go_wp2_with fail
    (try rw [hW1])
    (try rw [hbx])
    with_reducible refine E.mono ?_
    rintro e w2 ⟨rfl, c2, s2, o2⟩
    have a2 := X1.out.2.1.keep s2 (fun h => h)
    have s3 : Step No c2 w2 c2 (w2.alloc (.cells #[.int .i64 4, .int .i64 a] 74)) := Step.refl.alloc _
    have f3 := At.new0 o2 [.int .i64 4, .int .i64 a] 74
    have o3 := o2.alloc (.cells #[.int .i64 4, .int .i64 a] 74)
    have a3 := a2.keep s3 (fun h => h)
    have R := rest_ok (((X1.out.2.2.kn s2).kn s3).kn (Step.rf.drewN 1)) rfl
    obtain ⟨W3, hW3⟩ : ∃ W, w2.alloc (.cells #[.int .i64 4, .int .i64 a] 74) = W := ⟨_, rfl⟩
    obtain ⟨fb, hfb⟩ : ∃ b, w2.heap.size = b := ⟨_, rfl⟩
    have K1 : (fun W : World => W.cell? ⟨bx, 0, none⟩ = some (.pointer (some ⟨p, 0, none⟩)) ∧ W.cell? ⟨fb, 0, none⟩ = some (.int .i64 4) ∧ W.cell? ⟨fb, 1, none⟩ = some (.int .i64 a)) W3.drew := by rw [← hW3, ← hfb]; exact ⟨a3.get (i := 0) rfl, f3.get (i := 0) rfl, f3.get (i := 1) rfl⟩
    rw [hW3] at s3 o3 R
    have X3 := Lib.hid (And.intro ((X1.out.1.trans s2).trans s3) o3)
    have hg : (0 : Int) < (bs.length : Int) - (a : Int) := by omega
    have hgd : decide ((0 : Int) < (bs.length : Int) - (a : Int)) = true := by simp; omega
    clear E s2 o2 a2 s3 f3 o3 a3 y0
    go_wp2_with fail
    (try rw [hW3])
    (try rw [hfb])
    refine region_planM (fun W => W.cell? ⟨bx, 0, none⟩ = some (.pointer (some ⟨p, 0, none⟩)) ∧ W.cell? ⟨fb, 0, none⟩ = some (.int .i64 4) ∧ W.cell? ⟨fb, 1, none⟩ = some (.int .i64 a)) (fun _ => true) (by kernel_rfl) ?_
    refine wpAnyM.takeT (i := 0) (v := _) (some 6) rfl rfl (by kernel_rfl) (by kernel_rfl) (by kernel_rfl) (by kernel_rfl) (by kernel_rfl) (fun _ _ _ h => h) (Or.inl ⟨by rfl, fun W hW => by first | (obtain ⟨q0, q1, q2⟩ := hW; go_simp <;> rfl) | (obtain ⟨q0, q1, q2⟩ := hW; go_simp; done)⟩) K1 ?_
    (try simp only [Act.put, List.setIfInBounds_toArray, List.set_cons_zero, List.set_cons_succ])
    refine wpAnyM.takeT (i := 1) (v := _) (some 7) rfl rfl (by kernel_rfl) (by kernel_rfl) (by kernel_rfl) (by kernel_rfl) (by kernel_rfl) (fun _ _ _ h => h) (Or.inl ⟨by rfl, fun W hW => by first | (obtain ⟨q0, q1, q2⟩ := hW; go_simp <;> rfl) | (obtain ⟨q0, q1, q2⟩ := hW; go_simp; done)⟩) K1 ?_
    (try simp only [Act.put, List.setIfInBounds_toArray, List.set_cons_zero, List.set_cons_succ])
    refine wpAnyM.takeT (i := 2) (v := _) (some 8) rfl rfl (by kernel_rfl) (by kernel_rfl) (by kernel_rfl) (by kernel_rfl) (by kernel_rfl) (fun _ _ _ h => h) (Or.inl ⟨by rfl, fun W hW => by first | (obtain ⟨q0, q1, q2⟩ := hW; go_simp <;> rfl) | (obtain ⟨q0, q1, q2⟩ := hW; go_simp; done)⟩) K1 ?_
    (try simp only [Act.put, List.setIfInBounds_toArray, List.set_cons_zero, List.set_cons_succ])
    refine wpAnyM.takeT (i := 3) (v := _) (some 9) rfl rfl (by kernel_rfl) (by kernel_rfl) (by kernel_rfl) (by kernel_rfl) (by kernel_rfl) (fun _ _ _ h => h) (Or.inl ⟨by rfl, fun W hW => by first | (obtain ⟨q0, q1, q2⟩ := hW; go_simp <;> rfl) | (obtain ⟨q0, q1, q2⟩ := hW; go_simp; done)⟩) K1 ?_
    (try simp only [Act.put, List.setIfInBounds_toArray, List.set_cons_zero, List.set_cons_succ])
    refine wpAnyM.takeT (i := 4) (v := _) (some 10) rfl rfl (by kernel_rfl) (by kernel_rfl) (by kernel_rfl) (by kernel_rfl) (by kernel_rfl) (fun _ _ _ h => h) (Or.inl ⟨by rfl, fun W hW => by first | (obtain ⟨q0, q1, q2⟩ := hW; go_simp <;> rfl) | (obtain ⟨q0, q1, q2⟩ := hW; go_simp; done)⟩) K1 ?_
    (try simp only [Act.put, List.setIfInBounds_toArray, List.set_cons_zero, List.set_cons_succ])
    refine wpAnyM.takeT (i := 5) (v := _) (some 11) rfl rfl (by kernel_rfl) (by kernel_rfl) (by kernel_rfl) (by kernel_rfl) (by kernel_rfl) (fun _ _ _ h => h) (Or.inl ⟨by rfl, fun W hW => by first | (obtain ⟨q0, q1, q2⟩ := hW; go_simp <;> rfl) | (obtain ⟨q0, q1, q2⟩ := hW; go_simp; done)⟩) K1 ?_
    (try simp only [Act.put, List.setIfInBounds_toArray, List.set_cons_zero, List.set_cons_succ])
    refine wpAnyM.takeT (i := 9) (v := _) (some 15) rfl rfl (by kernel_rfl) (by kernel_rfl) (by kernel_rfl) (by kernel_rfl) (by kernel_rfl) (fun _ _ _ h => h) (Or.inl ⟨by rfl, fun W hW => by first | (obtain ⟨q0, q1, q2⟩ := hW; go_simp <;> rfl) | (obtain ⟨q0, q1, q2⟩ := hW; go_simp; done)⟩) K1 ?_
    (try simp only [Act.put, List.setIfInBounds_toArray, List.set_cons_zero, List.set_cons_succ])
    refine wpAnyM.takeT (i := 10) (v := _) (some 16) rfl rfl (by kernel_rfl) (by kernel_rfl) (by kernel_rfl) (by kernel_rfl) (by kernel_rfl) (fun _ _ _ h => h) (Or.inl ⟨by rfl, fun W hW => by first | (obtain ⟨q0, q1, q2⟩ := hW; go_simp <;> rfl) | (obtain ⟨q0, q1, q2⟩ := hW; go_simp; done)⟩) K1 ?_
    (try simp only [Act.put, List.setIfInBounds_toArray, List.set_cons_zero, List.set_cons_succ])
    refine wpAnyM.takeT (i := 11) (v := _) (some 17) rfl rfl (by kernel_rfl) (by kernel_rfl) (by kernel_rfl) (by kernel_rfl) (by kernel_rfl) (fun _ _ _ h => h) (Or.inl ⟨by rfl, fun W hW => by first | (obtain ⟨q0, q1, q2⟩ := hW; go_simp <;> rfl) | (obtain ⟨q0, q1, q2⟩ := hW; go_simp; done)⟩) K1 ?_
    (try simp only [Act.put, List.setIfInBounds_toArray, List.set_cons_zero, List.set_cons_succ])
    refine wpAnyM.takeT (i := 12) (v := _) (some 18) rfl rfl (by kernel_rfl) (by kernel_rfl) (by kernel_rfl) (by kernel_rfl) (by kernel_rfl) (fun _ _ _ h => h) (Or.inl ⟨by rfl, fun W hW => by first | (obtain ⟨q0, q1, q2⟩ := hW; go_simp <;> rfl) | (obtain ⟨q0, q1, q2⟩ := hW; go_simp; done)⟩) K1 ?_
    (try simp only [Act.put, List.setIfInBounds_toArray, List.set_cons_zero, List.set_cons_succ])
    refine wpAnyM.one (i := 6) (by kernel_rfl) rfl (fun KQ hK => ?_)
    go_simp
    refine R.mono ?_
    rintro e w4 ⟨rfl, m, rfl⟩
    have X4 := Lib.hid (And.intro (X3.out.1.drewN (1 + m)) (X3.out.2.drewN (1 + m)))
    go_simp
    refine hK.out _ _ (fun _ => K1) ?_
    clear hK KQ
    (try simp only [Act.put, List.setIfInBounds_toArray, List.set_cons_zero, List.set_cons_succ])
    refine wpAnyM.takeT (i := 7) (v := _) (some 13) rfl rfl (by kernel_rfl) (by kernel_rfl) (by kernel_rfl) (by kernel_rfl) (by kernel_rfl) (fun _ _ _ h => h) (Or.inl ⟨by rfl, fun W hW => by first | (obtain ⟨q0, q1, q2⟩ := hW; go_simp <;> rfl) | (obtain ⟨q0, q1, q2⟩ := hW; go_simp; done)⟩) K1 ?_
    (try simp only [Act.put, List.setIfInBounds_toArray, List.set_cons_zero, List.set_cons_succ])
    refine wpAnyM.takeT (i := 8) (v := _) (some 14) rfl rfl (by kernel_rfl) (by kernel_rfl) (by kernel_rfl) (by kernel_rfl) (by kernel_rfl) (fun _ _ _ h => h) (Or.inl ⟨by rfl, fun W hW => by first | (obtain ⟨q0, q1, q2⟩ := hW; go_simp <;> rfl) | (obtain ⟨q0, q1, q2⟩ := hW; go_simp; done)⟩) K1 ?_
    (try simp only [Act.put, List.setIfInBounds_toArray, List.set_cons_zero, List.set_cons_succ])
    refine wpAnyM.one (i := 13) (by kernel_rfl) rfl (fun KQ hK => ?_)
    go_simp
    refine (mmust_yes _ 4 (a : Int)).mono ?_
    rintro e w5 ⟨rfl, rfl⟩
    go_simp
    refine hK.out _ _ (fun _ => K1) ?_
    clear hK KQ
    (try simp only [Act.put, List.setIfInBounds_toArray, List.set_cons_zero, List.set_cons_succ])
    refine wpAnyM.done (by kernel_rfl) ?_ _
    go_wp2_with fail
    first | go_end0 | refine bodyPost_ret (results_none rfl _ _ _) rfl ?_
    exact ⟨rfl, c2, X4.out⟩
  · have he : endF bs a (0, 0) = (0, 0) := by unfold endF; rw [if_neg (fun h => hlt h.2)]
    rw [he] at E
    go_enter Tryz.func52, Tryz.ntmps52
    go_wp2_with fail
    (try rw [hW1])
    (try rw [hbx])
    with_reducible refine E.mono ?_
    rintro e w2 ⟨rfl, c2, s2, o2⟩
    have s3 : Step No c2 w2 c2 (w2.alloc (.cells #[.int .i64 0, .int .i64 0] 74)) := Step.refl.alloc _
    have f3 := At.new0 o2 [.int .i64 0, .int .i64 0] 74
    have o3 := o2.alloc (.cells #[.int .i64 0, .int .i64 0] 74)
    obtain ⟨W3, hW3⟩ : ∃ W, w2.alloc (.cells #[.int .i64 0, .int .i64 0] 74) = W := ⟨_, rfl⟩
    obtain ⟨fb, hfb⟩ : ∃ b, w2.heap.size = b := ⟨_, rfl⟩
    have K1 : (fun W : World => W.cell? ⟨fb, 0, none⟩ = some (.int .i64 0) ∧ W.cell? ⟨fb, 1, none⟩ = some (.int .i64 0)) W3.drew := by rw [← hW3, ← hfb]; exact ⟨f3.get (i := 0) rfl, f3.get (i := 1) rfl⟩
    rw [hW3] at s3 o3
    have X3 := Lib.hid (And.intro (((X1.out.1.trans s2).trans s3).drewN 1) (o3.drewN 1))
    have HW3 := Lib.hid hW3
    clear E s2 o2 s3 f3 o3 y0 hW3
    go_wp2_with fail
    (try rw [HW3.out])
    (try rw [hfb])
    refine region_planM (fun W => W.cell? ⟨fb, 0, none⟩ = some (.int .i64 0) ∧ W.cell? ⟨fb, 1, none⟩ = some (.int .i64 0)) (fun _ => true) (by kernel_rfl) ?_
    refine wpAnyM.takeT (i := 0) (v := _) (some 6) rfl rfl (by kernel_rfl) (by kernel_rfl) (by kernel_rfl) (by kernel_rfl) (by kernel_rfl) (fun _ _ _ h => h) (Or.inl ⟨by rfl, fun W hW => by first | (obtain ⟨q0, q1⟩ := hW; go_simp <;> rfl) | (obtain ⟨q0, q1⟩ := hW; go_simp; done)⟩) K1 ?_
    (try simp only [Act.put, List.setIfInBounds_toArray, List.set_cons_zero, List.set_cons_succ])
    refine wpAnyM.takeT (i := 1) (v := _) (some 7) rfl rfl (by kernel_rfl) (by kernel_rfl) (by kernel_rfl) (by kernel_rfl) (by kernel_rfl) (fun _ _ _ h => h) (Or.inl ⟨by rfl, fun W hW => by first | (obtain ⟨q0, q1⟩ := hW; go_simp <;> rfl) | (obtain ⟨q0, q1⟩ := hW; go_simp; done)⟩) K1 ?_
    (try simp only [Act.put, List.setIfInBounds_toArray, List.set_cons_zero, List.set_cons_succ])
    refine wpAnyM.takeT (i := 2) (v := _) (some 8) rfl rfl (by kernel_rfl) (by kernel_rfl) (by kernel_rfl) (by kernel_rfl) (by kernel_rfl) (fun _ _ _ h => h) (Or.inl ⟨by rfl, fun W hW => by first | (obtain ⟨q0, q1⟩ := hW; go_simp <;> rfl) | (obtain ⟨q0, q1⟩ := hW; go_simp; done)⟩) K1 ?_
    (try simp only [Act.put, List.setIfInBounds_toArray, List.set_cons_zero, List.set_cons_succ])
    refine wpAnyM.takeT (i := 3) (v := _) (some 9) rfl rfl (by kernel_rfl) (by kernel_rfl) (by kernel_rfl) (by kernel_rfl) (by kernel_rfl) (fun _ _ _ h => h) (Or.inl ⟨by rfl, fun W hW => by first | (obtain ⟨q0, q1⟩ := hW; go_simp <;> rfl) | (obtain ⟨q0, q1⟩ := hW; go_simp; done)⟩) K1 ?_
    (try simp only [Act.put, List.setIfInBounds_toArray, List.set_cons_zero, List.set_cons_succ])
    refine wpAnyM.takeT (i := 4) (v := _) (some 10) rfl rfl (by kernel_rfl) (by kernel_rfl) (by kernel_rfl) (by kernel_rfl) (by kernel_rfl) (fun _ _ _ h => h) (Or.inr ⟨by rfl, rfl⟩) K1 ?_
    (try simp only [Act.put, List.setIfInBounds_toArray, List.set_cons_zero, List.set_cons_succ])
    refine wpAnyM.takeT (i := 5) (v := _) (some 11) rfl rfl (by kernel_rfl) (by kernel_rfl) (by kernel_rfl) (by kernel_rfl) (by kernel_rfl) (fun _ _ _ h => h) (Or.inr ⟨by rfl, rfl⟩) K1 ?_
    (try simp only [Act.put, List.setIfInBounds_toArray, List.set_cons_zero, List.set_cons_succ])
    refine wpAnyM.takeT (i := 6) (v := _) (some 12) rfl rfl (by kernel_rfl) (by kernel_rfl) (by kernel_rfl) (by kernel_rfl) (by kernel_rfl) (fun _ _ _ h => h) (Or.inr ⟨by rfl, rfl⟩) K1 ?_
    (try simp only [Act.put, List.setIfInBounds_toArray, List.set_cons_zero, List.set_cons_succ])
    refine wpAnyM.takeT (i := 7) (v := _) (some 13) rfl rfl (by kernel_rfl) (by kernel_rfl) (by kernel_rfl) (by kernel_rfl) (by kernel_rfl) (fun _ _ _ h => h) (Or.inr ⟨by rfl, rfl⟩) K1 ?_
    (try simp only [Act.put, List.setIfInBounds_toArray, List.set_cons_zero, List.set_cons_succ])
    refine wpAnyM.takeT (i := 8) (v := _) (some 14) rfl rfl (by kernel_rfl) (by kernel_rfl) (by kernel_rfl) (by kernel_rfl) (by kernel_rfl) (fun _ _ _ h => h) (Or.inl ⟨by rfl, fun W hW => by first | (obtain ⟨q0, q1⟩ := hW; go_simp <;> rfl) | (obtain ⟨q0, q1⟩ := hW; go_simp; done)⟩) K1 ?_
    (try simp only [Act.put, List.setIfInBounds_toArray, List.set_cons_zero, List.set_cons_succ])
    refine wpAnyM.takeT (i := 9) (v := _) (some 15) rfl rfl (by kernel_rfl) (by kernel_rfl) (by kernel_rfl) (by kernel_rfl) (by kernel_rfl) (fun _ _ _ h => h) (Or.inl ⟨by rfl, fun W hW => by first | (obtain ⟨q0, q1⟩ := hW; go_simp <;> rfl) | (obtain ⟨q0, q1⟩ := hW; go_simp; done)⟩) K1 ?_
    (try simp only [Act.put, List.setIfInBounds_toArray, List.set_cons_zero, List.set_cons_succ])
    refine wpAnyM.takeT (i := 10) (v := _) (some 16) rfl rfl (by kernel_rfl) (by kernel_rfl) (by kernel_rfl) (by kernel_rfl) (by kernel_rfl) (fun _ _ _ h => h) (Or.inl ⟨by rfl, fun W hW => by first | (obtain ⟨q0, q1⟩ := hW; go_simp <;> rfl) | (obtain ⟨q0, q1⟩ := hW; go_simp; done)⟩) K1 ?_
    (try simp only [Act.put, List.setIfInBounds_toArray, List.set_cons_zero, List.set_cons_succ])
    refine wpAnyM.takeT (i := 11) (v := _) (some 17) rfl rfl (by kernel_rfl) (by kernel_rfl) (by kernel_rfl) (by kernel_rfl) (by kernel_rfl) (fun _ _ _ h => h) (Or.inl ⟨by rfl, fun W hW => by first | (obtain ⟨q0, q1⟩ := hW; go_simp <;> rfl) | (obtain ⟨q0, q1⟩ := hW; go_simp; done)⟩) K1 ?_
    (try simp only [Act.put, List.setIfInBounds_toArray, List.set_cons_zero, List.set_cons_succ])
    refine wpAnyM.takeT (i := 12) (v := _) (some 18) rfl rfl (by kernel_rfl) (by kernel_rfl) (by kernel_rfl) (by kernel_rfl) (by kernel_rfl) (fun _ _ _ h => h) (Or.inl ⟨by rfl, fun W hW => by first | (obtain ⟨q0, q1⟩ := hW; go_simp <;> rfl) | (obtain ⟨q0, q1⟩ := hW; go_simp; done)⟩) K1 ?_
    (try simp only [Act.put, List.setIfInBounds_toArray, List.set_cons_zero, List.set_cons_succ])
    refine wpAnyM.one (i := 13) (by kernel_rfl) rfl (fun KQ hK => ?_)
    go_simp
    refine (mmust_yes _ 0 0).mono ?_
    rintro e w5 ⟨rfl, rfl⟩
    go_simp
    refine hK.out _ _ (fun _ => K1) ?_
    clear hK KQ
    (try simp only [Act.put, List.setIfInBounds_toArray, List.set_cons_zero, List.set_cons_succ])
    refine wpAnyM.done (by kernel_rfl) ?_ _
    go_wp2_with fail
    first | go_end0 | refine bodyPost_ret (results_none rfl _ _ _) rfl ?_
    exact ⟨rfl, c2, X3.out⟩

set_option maxRecDepth 100000 in
set_option maxHeartbeats 1600000 in
theorem mnum_any (hok : Ok c w) {k p : Nat} {bs : List UInt8} {a : Nat} (h : IsRd c k w p bs a (0, 0)) (hk0 : k ≠ 0) (n : Nat) (hn : n < 9223372036854775808) {rest : List UInt8} (hb : bs.drop a = numB n ++ rest) {may : Nat} (hmay : ∀ W, Calls Tryz.prog may #[.int .i64 n] W fun r w' => r = .returned (.bool true) ∧ w' = W) (hmf : may = 54 ∨ may = 55) :
    Calls Tryz.prog 53 #[.agg #[.pointer (some ⟨p, 0, none⟩), .int .i64 bs.length], .func (.func may) #[] #[]] w fun r w' => r = .returned (.int .i64 n) ∧
      ∃ c', IsRd c' k w' p bs (a + (numB n).length) (0, 0) ∧ Step (One k) c w c' w' ∧ Ok c' w' := by
  have hnk : ¬ One k 0 := fun (e : 0 = k) => hk0 e.symm
  have s1 : Step No c w c (w.alloc (.cells #[.pointer (some ⟨p, 0, none⟩), .int .i64 bs.length] 115)) := Step.refl.alloc _
  have a1 := At.new0 hok [.pointer (some ⟨p, 0, none⟩), .int .i64 bs.length] 115
  have o1 := hok.alloc (.cells #[.pointer (some ⟨p, 0, none⟩), .int .i64 bs.length] 115)
  have AT := mat_any o1 (h.kn s1)
  obtain ⟨W1, hW1⟩ : ∃ W, w.alloc (.cells #[.pointer (some ⟨p, 0, none⟩), .int .i64 bs.length] 115) = W := ⟨_, rfl⟩
  obtain ⟨bx, hbx⟩ : ∃ b, w.heap.size = b := ⟨_, rfl⟩
  have h1 := h.kn s1
  rw [hW1] at s1 o1 AT a1 h1
  rw [hbx] at a1
  have y0 := a1.get (i := 0) rfl
  have y1 := a1.get (i := 1) rfl
  have X1 := Lib.hid (And.intro s1 (And.intro a1 h1))
  have HB := Lib.hid (And.intro hb hmay)
  clear s1 o1 a1 h hok h1 hb hmay
  go_enter Tryz.func53, Tryz.ntmps53
  go_wp2_with fail
  (try rw [hW1])
  (try rw [hbx])
  with_reducible refine AT.mono ?_
  rintro e w2 ⟨rfl, c2, s2, o2⟩
  have a2 := X1.out.2.1.keep s2 (fun h => h)
  have NM := Num_any o2 (X1.out.2.2.kn s2) hk0 n hn HB.out.1
  have z0 := a2.get (i := 0) rfl
  have X2 := Lib.hid (And.intro (X1.out.1.trans s2) a2)
  clear AT s2 o2 a2 y0 y1
  go_wp2_with fail
  with_reducible refine NM.mono ?_
  rintro e w3 ⟨rfl, c3, i3, s3, o3⟩
  have a3 := X2.out.2.keep s3 hnk
  have FN := fine_any o3 i3 bs.length
  have z3 := a3.get (i := 0) rfl
  have z31 := a3.get (i := 1) rfl
  have X3 := Lib.hid (And.intro i3 (X2.out.1.ofNo.trans s3))
  clear NM i3 s3 o3 a3 z0
  go_wp2_with fail
  with_reducible refine FN.mono ?_
  rintro e w4 ⟨rfl, c4, s4, o4⟩
  have MY := HB.out.2 w4
  have MU := mmust_yes w4 3 (a : Int)
  have X4 := Lib.hid (And.intro (X3.out.1.kn s4) (And.intro (X3.out.2.trans s4.ofNo) o4))
  clear FN s4 o4 z3 z31
  rcases hmf with rfl | rfl
  · go_wp2_with fail
    with_reducible refine MY.mono ?_
    rintro e w5 ⟨rfl, rfl⟩
    go_wp2_with fail
    with_reducible refine MU.mono ?_
    rintro e w5 ⟨rfl, rfl⟩
    go_wp2_with fail
    go_ret
    exact ⟨rfl, c4, X4.out⟩
  · go_wp2_with fail
    with_reducible refine MY.mono ?_
    rintro e w5 ⟨rfl, rfl⟩
    go_wp2_with fail
    with_reducible refine MU.mono ?_
    rintro e w5 ⟨rfl, rfl⟩
    go_wp2_with fail
    go_ret
    exact ⟨rfl, c4, X4.out⟩
end
end Go.Proofs.YtgcobbapaaihiaaGreat
