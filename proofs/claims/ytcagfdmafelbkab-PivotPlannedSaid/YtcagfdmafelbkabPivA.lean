/- Pivot: the chapter's examples that every law of the layer asks. -/
import Derived.Test.YtcagfdmafelbkabPiv7
import Derived.Test.YtcagfdmafelbkabPiv10
set_option linter.unusedVariables false
set_option linter.unusedSimpArgs false
namespace Go.Proofs.Ytcagfdmafelbkab
open Go.RowKit

section
variable {c : Col} {w : World} {k kr b : Nat} {s : Stk}

theorem lsplit_yes (hok : Ok c w) (h : IsSt c k kr w b s) (g : Good s) (hk0 : k ≠ 0) (hr0 : kr ≠ 0) (hkr : kr ≠ k) (hlen : s.l.length ≤ 1000000000) :
    Calls Try.prog 20 #[.pointer (some ⟨b, 0, none⟩), .int .i64 (splitH s), .int .i64 (splitE s)] w fun r w' => r = .returned (.bool true) ∧ ∃ c', IsSt c' k kr w' b (splitS s) ∧ Step (Two k kr) c w c' w' ∧ Ok c' w' := by
  have C1 := split_any hok h g hk0 hr0 hkr hlen
  clear h hok g hk0 hr0 hkr hlen
  go_enter Try.func20, Try.ntmps20
  go_wp2_with fail
  with_reducible refine C1.mono ?_
  rintro e w1 ⟨rfl, c1, i1, s1, o1⟩
  go_wp2
  go_ret
  exact ⟨rfl, c1, i1, s1, o1⟩

theorem lpop_yes (hok : Ok c w) (h : IsSt c k kr w b s) (hr : 1 ≤ s.root) (hk0 : k ≠ 0) (hr0 : kr ≠ 0) (hkr : kr ≠ k) :
    Calls Try.prog 19 #[.pointer (some ⟨b, 0, none⟩), .int .i64 (popH s), .int .i64 (popE s)] w fun r w' => r = .returned (.bool true) ∧ IsSt c k kr w' b (popS s) ∧ Step (One k) c w c w' ∧ Ok c w' := by
  have C1 := pop_any hok h hr hk0 hr0 hkr
  clear h hok hr hk0 hr0 hkr
  go_enter Try.func19, Try.ntmps19
  go_wp2_with fail
  with_reducible refine C1.mono ?_
  rintro e w1 ⟨rfl, i1, s1, o1⟩
  go_wp2
  go_ret
  exact ⟨rfl, i1, s1, o1⟩

def sFirst : Stk := ⟨3, 20, 7, [20, 11]⟩

/-- Three numbers in a new row. -/
theorem row3 (hok : Ok c w) (x y z : Int) (hx : IntKind.i64.has x) (hy : IntKind.i64.has y) (hz : IntKind.i64.has z) :
    Sl (TInt .i64) c 0 0 (w.alloc (.cells #[.int .i64 x, .int .i64 y, .int .i64 z] 3)) (.slice (some ⟨w.heap.size, 0, none⟩) 3 3) [x, y, z] := by
  refine .inr ⟨w.heap.size, 0, 3, rfl, Nat.le_refl _, by simp [maxLen], hok.fresh _ (Nat.le_refl _), by simp, fun i v hv => ?_⟩
  have hc := cellsAt_new w [.int .i64 x, .int .i64 y, .int .i64 z] 3 (0, 0)
  rcases i with _ | _ | _ | i
  · simp at hv; subst hv; exact ⟨[.int .i64 x], ⟨rfl, hx⟩, fun j u hj => by
      have h0 : j = 0 := by have := (List.getElem?_eq_some_iff.1 hj).1; simp at this; omega
      subst h0; simp at hj; subst hj; exact hc 0 _ rfl⟩
  · simp at hv; subst hv; exact ⟨[.int .i64 y], ⟨rfl, hy⟩, fun j u hj => by
      have h0 : j = 0 := by have := (List.getElem?_eq_some_iff.1 hj).1; simp at this; omega
      subst h0; simp at hj; subst hj; exact hc 1 _ rfl⟩
  · simp at hv; subst hv; exact ⟨[.int .i64 z], ⟨rfl, hz⟩, fun j u hj => by
      have h0 : j = 0 := by have := (List.getElem?_eq_some_iff.1 hj).1; simp at this; omega
      subst h0; simp at hj; subst hj; exact hc 2 _ rfl⟩
  · simp at hv

set_option maxHeartbeats 1600000 in
theorem first23_any (hok : Ok c w) (k kr : Nat) :
    Calls Try.prog 16 #[] w fun r w' => ∃ b, r = .returned (.pointer (some ⟨b, 0, none⟩)) ∧ ∃ c', IsSt c' k kr w' b sFirst ∧ Step No c w c' w' ∧ Ok c' w' := by
  obtain ⟨q, hq, hqc⟩ := hok.spare (k + kr)
  obtain ⟨q2, hq2, hqc2⟩ := hok.spare q
  have f0 : Fine (newS 3 20) := newS_fine ⟨by decide, by decide⟩ ⟨by decide, by decide⟩ (by decide)
  have N1 := newst_ok hok 3 20 ⟨by decide, by decide⟩ ⟨by decide, by decide⟩ (by decide) q q2
  go_enter Try.func16, Try.ntmps16
  go_wp2_with fail
  with_reducible refine N1.mono ?_
  rintro e w1 ⟨rfl, c1, i1, s1, o1⟩
  have P1 := lsplit_yes o1 i1 f0.good (by omega) (by omega) (by omega) (by decide)
  rw [show splitH (newS 3 20) = 11 from rfl, show splitE (newS 3 20) = 0 from rfl] at P1
  clear N1 i1 o1
  go_wp2_with fail
  with_reducible refine P1.mono ?_
  rintro e w2 ⟨rfl, c2, i2, s2, o2⟩
  have P2 := lsplit_yes o2 i2 f0.good.split (by omega) (by omega) (by omega) (by decide)
  rw [show splitH (splitS (newS 3 20)) = 7 from rfl, show splitE (splitS (newS 3 20)) = 0 from rfl] at P2
  clear P1 i2 o2
  go_wp2_with fail
  with_reducible refine P2.mono ?_
  rintro e w3 ⟨rfl, c3, i3, s3, o3⟩
  have P3 := heights_any o3 i3 (by decide) (by decide) 0
  clear P2
  go_wp2_with fail
  with_reducible refine P3.mono ?_
  rintro e w4 ⟨v4, c4, rfl, h4, s4, o4⟩
  obtain ⟨va, vc, rfl, _⟩ := h4.sl.form
  rw [show (splitS (splitS (newS 3 20))).l = [20, 11, 7] from rfl] at h4
  have i4 := i3.kn s4
  have R := row3 o4 20 11 7 ⟨by decide, by decide⟩ ⟨by decide, by decide⟩ ⟨by decide, by decide⟩
  have S5 := Step.al (c := c4) (w := w4) (.cells #[.int .i64 20, .int .i64 11, .int .i64 7] 3)
  have P4 := sameInts_eq (h4.sl.kn S5) R
  have i5 := i4.kn S5
  have o5 := o4.alloc (.cells #[.int .i64 20, .int .i64 11, .int .i64 7] 3)
  clear P3 i3 o3 h4 R i4 o4
  go_wp2_with fail
  refine P4.mono ?_
  rintro e w6 ⟨rfl, n, rfl⟩
  have i6 := i5.kn (Step.rf.drewN n)
  have o6 := o5.drewN n
  have T6 := (((s1.ofNo.trans s2).trans s3).trans s4.ofNo).trans (S5.ofNo.trans (Step.refl.drewN n))
  have P5 := lpop_yes o6 i6 (by decide) (by omega) (by omega) (by omega)
  rw [show popH (splitS (splitS (newS 3 20))) = 7 from rfl, show popE (splitS (splitS (newS 3 20))) = 0 from rfl] at P5
  clear P4 i5 o5 i6 o6 s1 s2 s3 s4 S5
  go_wp2_with fail
  refine P5.mono ?_
  rintro e w7 ⟨rfl, i7, s7, o7⟩
  have T7 := T6.trans (s7.mono (K' := Two q q2) fun j h => .inl h)
  have P6 := base_any i7 (by decide)
  rw [show (popS (splitS (splitS (newS 3 20)))).low = 7 from rfl] at P6
  clear P5 T6 s7
  go_wp2_with fail
  with_reducible refine P6.mono ?_
  rintro e w8 ⟨rfl, rfl⟩
  have P7 := sttop_any i7 (by decide)
  rw [show topL (popS (splitS (splitS (newS 3 20)))).l = 11 from rfl] at P7
  clear P6
  go_wp2_with fail
  with_reducible refine P7.mono ?_
  rintro e w9 ⟨rfl, n2, rfl⟩
  go_wp2
  go_ret
  refine ⟨_, rfl, ?_⟩
  have i9 : IsSt _ q q2 (w7.drewN n2) w.heap.size sFirst := i7.kn (Step.rf.drewN n2)
  exact i9.out2 (T7.trans (Step.refl.drewN n2)) (o7.drewN n2) hqc hqc2 (by omega) (by omega) (by omega) k kr (by omega)

theorem plans_yes (hok : Ok c w) (r t : Int) {k1 k2 k3 k4 k5 k6 : Nat} {v v2 v3 : Value} {hs : List Pair} {ts : List Tri} {asl : List Int} {dn : Bool} (hv : Sl TPair c k1 k2 w v hs) (ha : isH r) (hb : isH t) (h : r < t) (hf : t - r ≤ 4096) (hlen : hs.length ≤ 1000000000)
    (hp : plan hs (newS r t) = (ts, asl, dn)) (h2 : Sl TTri c k3 k4 w v2 ts) (h3 : Sl (TInt .i64) c k5 k6 w v3 (t :: asl)) :
    Calls Try.prog 22 #[.int .i64 r, .int .i64 t, v, v2, v3, .bool dn] w fun e w' => e = .returned (.bool true) ∧ ∃ c', Step No c w c' w' ∧ Ok c' w' := by
  have P1 := plan_main hok r t hv ha hb h hf hlen 0 0
  rw [hp] at P1
  dsimp only at P1
  obtain ⟨a2, n2, rfl, _⟩ := h2.form
  obtain ⟨a3, n3, rfl, _⟩ := h3.form
  obtain ⟨a1, n1, rfl, _⟩ := hv.form
  have H := Lib.hid (And.intro h2 h3)
  clear hv ha hb h hf hlen hp h2 h3 hok
  go_enter Try.func22, Try.ntmps22
  go_wp2_with fail
  with_reducible refine P1.mono ?_
  rintro e w1 ⟨va, vb, rfl, c1, x1, x2, s1, o1⟩
  obtain ⟨h2, h3⟩ := H.out
  have P2 := sameTries_eq x1 (h2.kn s1)
  have P3 := fun n => sameInts_eq (x2.kn (Step.rf.drewN n)) ((h3.kn s1).kn (Step.rf.drewN n))
  obtain ⟨b1, m1, rfl, _⟩ := x1.form
  obtain ⟨b2, m2, rfl, _⟩ := x2.form
  simp only [List.length_cons] at P3
  clear P1 x1 x2 h2 h3 H
  go_wp2_with fail
  with_reducible refine P2.mono ?_
  rintro e w2 ⟨rfl, n, rfl⟩
  go_wp2_with fail
  with_reducible refine (P3 n).mono ?_
  rintro e w3 ⟨rfl, m, rfl⟩
  go_wp2
  go_ret
  exact ⟨by simp, c1, s1.drewN (n + m), o1.drewN (n + m)⟩

set_option maxHeartbeats 800000 in
theorem awake23_any (hok : Ok c w) :
    Calls Try.prog 23 #[] w fun r w' => r = .returned (.bool true) ∧ ∃ c', Step No c w c' w' ∧ Ok c' w' := by
  have F1 := first23_any hok 1 2
  go_enter Try.func23, Try.ntmps23
  go_wp2_with fail
  with_reducible refine F1.mono ?_
  rintro e w1 ⟨b, rfl, c1, i1, s1, o1⟩
  have D1 := deep_any 17 w1 ⟨by decide, by decide⟩
  rw [show deepL 17 = 6 by decide] at D1
  clear F1 i1
  go_wp2_with fail
  with_reducible refine D1.mono ?_
  rintro e w2 ⟨rfl, rfl⟩
  obtain ⟨x1, x2, x3⟩ := put_one (T := TPair) (x := (1, 3)) (vs := [.int .i64 1, .int .i64 3]) (k2 := 0) o1 ⟨rfl, ⟨by decide, by decide⟩, ⟨by decide, by decide⟩⟩ 36
  obtain ⟨y1, y2, y3⟩ := put_one (T := TTri) (x := ⟨1, 3, true⟩) (vs := [.int .i64 1, .int .i64 3, .bool true]) (k2 := 0) x1 rfl 41
  obtain ⟨z1, z2, z3⟩ := put_one (T := TInt .i64) (x := 3) (vs := [.int .i64 3]) (k2 := 0) y1 ⟨rfl, ⟨by decide, by decide⟩⟩ 3
  have P1 := plans_yes z1 1 3 (x2.kn (y3.trans z3)) ⟨by decide, by decide⟩ ⟨by decide, by decide⟩ (by decide) (by decide) (by decide) (ts := [⟨1, 3, true⟩]) (asl := []) (dn := true) (by rfl) (y2.kn z3) z2
  have S := ((s1.trans x3).trans y3).trans z3
  simp only [World.size_alloc] at P1
  clear D1 x1 x2 x3 y1 y2 y3 z1 z2 z3 s1 o1
  go_wp2_with fail
  refine P1.mono ?_
  rintro e w3 ⟨rfl, c3, s3, o3⟩
  go_wp2
  go_ret
  exact ⟨rfl, c3, S.trans s3, o3⟩
end
end Go.Proofs.Ytcagfdmafelbkab
