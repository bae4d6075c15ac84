/- The law PivotKnown: its walk. -/
import Derived.Test.YtcagfdmafelbkabPivA
set_option linter.unusedVariables false
set_option linter.unusedSimpArgs false
namespace Go.Proofs.Ytcagfdmafelbkab
open Go.RowKit

section
variable {c : Col} {w : World}

theorem Col.put_fresh (hok : Ok c w) : c.put w.heap.size 0 = c := by
  funext b
  unfold Col.put
  split
  · next h => subst h; exact (hok.fresh _ (Nat.le_refl _)).symm
  · rfl

/-- Rows of cells that read as a list. -/
def Rds {α : Type} (T : Ty α) (c : Col) (k2 : Nat) (w : World) : List (List Value) → List α → Prop
  | [], [] => True
  | v :: vs, x :: xs => T.rd c k2 w v x ∧ Rds T c k2 w vs xs
  | _, _ => False

theorem Rds.get {α : Type} {T : Ty α} {k2 : Nat} : ∀ {vs : List (List Value)} {xs : List α}, Rds T c k2 w vs xs → ∀ (i : Nat) x, xs[i]? = some x → ∃ v, vs[i]? = some v ∧ T.rd c k2 w v x
  | [], [], _, i, x, h => by simp at h
  | [], _ :: _, h, _, _, _ => h.elim
  | _ :: _, [], h, _, _, _ => h.elim
  | v :: vs, y :: ys, h, 0, x, hi => by simp at hi; subst hi; exact ⟨v, rfl, h.1⟩
  | v :: vs, y :: ys, h, i + 1, x, hi => by
    obtain ⟨u, h1, h2⟩ := Rds.get h.2 i x (by simpa using hi)
    exact ⟨u, by simpa using h1, h2⟩

theorem Rds.len {α : Type} {T : Ty α} {k2 : Nat} : ∀ {vs : List (List Value)} {xs : List α}, Rds T c k2 w vs xs → vs.length = xs.length ∧ ∀ v ∈ vs, v.length = T.n
  | [], [], _ => ⟨rfl, by simp⟩
  | [], _ :: _, h => h.elim
  | _ :: _, [], h => h.elim
  | v :: vs, y :: ys, h => by
    obtain ⟨h1, h2⟩ := Rds.len h.2
    exact ⟨by simp [h1], fun u hu => by
      rcases List.mem_cons.1 hu with rfl | hu
      · exact T.len h.1
      · exact h2 u hu⟩

/-- A new row that is built out of parts. -/
theorem put_list {α : Type} {T : Ty α} (hok : Ok c w) (k2 : Nat) {xss : List (List Value)} {l : List α} (hr : Rds T c k2 w xss l) {cs : Array Value} (hcs : xss.flatten.toArray = cs) {n : Nat} (hn : l.length = n) (hm : n ≤ 1000) (e : TypeId) :
    Ok c (w.alloc (.cells cs e)) ∧ Sl T c 0 k2 (w.alloc (.cells cs e)) (.slice (some ⟨w.heap.size, 0, none⟩) n n) l ∧ Step No c w c (w.alloc (.cells cs e)) := by
  subst hcs hn
  obtain ⟨a1, a2, a3⟩ := Own.new T e hok 0 k2 xss l hr.len.1 (by simp [maxLen]; omega) hr.get hr.len.2
  rw [Col.put_fresh hok] at a1 a2 a3
  exact ⟨a2, a1.sl, a3⟩

theorem IsSt.toEq {k kr b : Nat} {s s' : Stk} (h : IsSt c k kr w b s) (e : s = s') : IsSt c k kr w b s' := e ▸ h

def s9 : Stk := ⟨3, 20, 7, [20, 11, 9]⟩
def s11 : Stk := ⟨3, 20, 9, [20, 11]⟩
def s20 : Stk := ⟨3, 20, 11, [20]⟩
def s0 : Stk := ⟨3, 20, 20, []⟩

set_option maxRecDepth 100000 in
set_option maxHeartbeats 1600000 in
theorem known_any (hok : Ok c w) :
    Calls Try.prog 5 #[] w fun r w' => r = .returned (.bool true) ∧ ∃ c', Step No c w c' w' ∧ Ok c' w' := by
  obtain ⟨q, hq, hqc⟩ := hok.spare 0
  obtain ⟨q2, hq2, hqc2⟩ := hok.spare q
  have hq0 : q ≠ 0 := by omega
  have hq20 : q2 ≠ 0 := by omega
  have hqq : q2 ≠ q := by omega
  have F1 := first23_any hok q q2
  have f0 : Fine (newS 3 20) := newS_fine ⟨by decide, by decide⟩ ⟨by decide, by decide⟩ (by decide)
  have gF : Good sFirst := f0.good.split.split.pop
  have h1 : IntKind.i64.has 11 := ⟨by decide, by decide⟩
  have h2 : IntKind.i64.has 7 := ⟨by decide, by decide⟩
  have h3 : IntKind.i64.has 9 := ⟨by decide, by decide⟩
  have QQ := Lib.hid (And.intro hq0 (And.intro hq20 (And.intro hqq (And.intro hqc hqc2))))
  clear hq hq2 hq0 hq20 hqq hqc hqc2 f0
  go_enter Try.func5, Try.ntmps5
  go_wp2_with fail
  with_reducible refine F1.mono ?_
  rintro e w1 ⟨b, rfl, c1, i1, s1, o1⟩
  have P1 := push_any o1 i1 (by decide) QQ.out.1 QQ.out.2.1 QQ.out.2.2.1 11 h1 (by decide)
  rw [show pushE sFirst 11 = 9 by decide, show pushS sFirst 11 = sFirst by rfl] at P1
  clear F1 i1 o1
  go_wp2_with fail
  with_reducible refine P1.mono ?_
  rintro e w2 ⟨rfl, c2, i2, s2, o2⟩
  have P2 := push_any o2 i2 (by decide) QQ.out.1 QQ.out.2.1 QQ.out.2.2.1 7 h2 (by decide)
  rw [show pushE sFirst 7 = 9 by decide, show pushS sFirst 7 = sFirst by rfl] at P2
  have T2 := (s1.ofNo (K := Two q q2)).trans s2
  clear P1 i2 o2 s1 s2
  go_wp2_with fail
  with_reducible refine P2.mono ?_
  rintro e w3 ⟨rfl, c3, i3, s3, o3⟩
  have P3 := push_any o3 i3 (by decide) QQ.out.1 QQ.out.2.1 QQ.out.2.2.1 9 h3 (by decide)
  rw [show pushE sFirst 9 = 0 by decide, show pushS sFirst 9 = s9 by rfl] at P3
  have T3 := T2.trans s3
  clear P2 i3 o3 s3 T2
  go_wp2_with fail
  with_reducible refine P3.mono ?_
  rintro e w4 ⟨rfl, c4, i4, s4, o4⟩
  have P4 := heights_any o4 i4 (by decide) (by decide) 0
  have T4 := T3.trans s4
  clear P3 s4 T3
  go_wp2_with fail
  with_reducible refine P4.mono ?_
  rintro e w5 ⟨v5, c5, rfl, a5, s5, o5⟩
  obtain ⟨va, vc, rfl, _⟩ := a5.sl.form
  rw [show s9.l = [20, 11, 9] from rfl] at a5
  have R := row3 o5 20 11 9 ⟨by decide, by decide⟩ ⟨by decide, by decide⟩ ⟨by decide, by decide⟩
  have S5 := Step.al (c := c5) (w := w5) (.cells #[.int .i64 20, .int .i64 11, .int .i64 9] 3)
  have P5 := sameInts_eq (a5.sl.kn S5) R
  have i6 := (i4.kn s5).kn S5
  have o6 := o5.alloc (.cells #[.int .i64 20, .int .i64 11, .int .i64 9] 3)
  have T6 := T4.trans (s5.trans S5).ofNo
  clear P4 i4 o4 a5 R s5 o5 S5 T4
  go_wp2_with fail
  refine P5.mono ?_
  rintro e w7 ⟨rfl, n, rfl⟩
  have P6 := lpop_yes (o6.drewN n) (i6.kn (Step.rf.drewN n)) (by decide) QQ.out.1 QQ.out.2.1 QQ.out.2.2.1
  rw [show popH s9 = 9 by rfl, show popE s9 = 0 by rfl, show popS s9 = s11 by rfl] at P6
  have T7 := T6.drewN n
  clear P5 i6 o6 T6
  go_wp2_with fail
  refine P6.mono ?_
  rintro e w8 ⟨rfl, i8, s8, o8⟩
  have T8 := T7.trans (s8.mono (K' := Two q q2) fun j h => .inl h)
  have P7 := lpop_yes o8 i8 (by decide) QQ.out.1 QQ.out.2.1 QQ.out.2.2.1
  rw [show popH s11 = 11 by rfl, show popE s11 = 0 by rfl, show popS s11 = s20 by rfl] at P7
  clear P6 s8 T7 i8 o8
  go_wp2_with fail
  with_reducible refine P7.mono ?_
  rintro e w9 ⟨rfl, i9, s9', o9⟩
  have T9 := T8.trans (s9'.mono (K' := Two q q2) fun j h => .inl h)
  have P8 := lpop_yes o9 i9 (by decide) QQ.out.1 QQ.out.2.1 QQ.out.2.2.1
  rw [show popH s20 = 20 by rfl, show popE s20 = 0 by rfl, show popS s20 = s0 by rfl] at P8
  clear P7 s9' T8 i9 o9
  go_wp2_with fail
  with_reducible refine P8.mono ?_
  rintro e w10 ⟨rfl, i10, s10, o10⟩
  have T10 := T9.trans (s10.mono (K' := Two q q2) fun j h => .inl h)
  have P9 := done_yes i10 (by decide) rfl
  clear P8 s10 T9
  go_wp2_with fail
  with_reducible refine P9.mono ?_
  rintro e w11 ⟨rfl, rfl⟩
  have P10 := lpop_yes o10 i10 (by decide) QQ.out.1 QQ.out.2.1 QQ.out.2.2.1
  rw [show popH s0 = 0 by rfl, show popE s0 = 11 by rfl, show popS s0 = s0 by rfl] at P10
  clear P9 i10 o10
  go_wp2_with fail
  with_reducible refine P10.mono ?_
  rintro e w12 ⟨rfl, i12, s12, o12⟩
  have T12 := T10.trans (s12.mono (K' := Two q q2) fun j h => .inl h)
  have g0 : Good s0 := ⟨⟨by decide, by decide⟩, ⟨by decide, by decide⟩, by decide, ⟨by decide, by decide⟩, by simp [s0], by simp [s0]⟩
  have P11 := lsplit_yes o12 i12 g0 QQ.out.1 QQ.out.2.1 QQ.out.2.2.1 (by decide)
  rw [show splitH s0 = 0 by rfl, show splitE s0 = 11 by rfl, show splitS s0 = s0 by rfl] at P11
  clear P10 i12 o12 T10 s12 g0
  go_wp2_with fail
  with_reducible refine P11.mono ?_
  rintro e w13 ⟨rfl, c13, i13, s13, o13⟩
  have T13 : Step No c w c13 w13 := (T12.trans s13).own2 QQ.out.2.2.2.1 QQ.out.2.2.2.2
  obtain ⟨p, hp, hpc⟩ := o13.spare 0
  obtain ⟨p2, hp2, hpc2⟩ := o13.spare p
  have hp0 : p ≠ 0 := by omega
  have hp20 : p2 ≠ 0 := by omega
  have hpp : p2 ≠ p := by omega
  have PP := Lib.hid (And.intro hp0 (And.intro hp20 (And.intro hpp (And.intro hpc hpc2))))
  clear hp hp2 hp0 hp20 hpp hpc hpc2
  have N1 := newst_ok o13 3 4 ⟨by decide, by decide⟩ ⟨by decide, by decide⟩ (by decide) p p2
  clear P11 i13 s13 T12 o13 QQ
  go_wp2_with fail
  with_reducible refine N1.mono ?_
  rintro e w14 ⟨rfl, c14, i14, s14, o14⟩
  have N2 := new_height 4 4 w14 ⟨by decide, by decide⟩ ⟨by decide, by decide⟩ (by decide)
  have N3 := new_range 0 4 w14 (by unfold isH; decide)
  have N4 := pivot_ok 3 4 w14 ⟨by decide, by decide⟩ ⟨by decide, by decide⟩ (by decide)
  rw [show mid 3 4 = 3 by rfl] at N4
  have N5 := pivot_height 4 3 w14 ⟨by decide, by decide⟩ ⟨by decide, by decide⟩ (by decide)
  have gN : Good (newS 3 4) := (newS_fine ⟨by decide, by decide⟩ ⟨by decide, by decide⟩ (by decide)).good
  have N6 := lsplit_yes o14 i14 gN PP.out.1 PP.out.2.1 PP.out.2.2.1 (by decide)
  rw [show splitH (newS 3 4) = 0 by rfl, show splitE (newS 3 4) = 11 by rfl] at N6
  clear N1 gN o14 i14
  go_wp2_with fail
  with_reducible refine N2.mono ?_
  rintro e w15 ⟨rfl, rfl⟩
  go_wp2_with fail
  with_reducible refine N3.mono ?_
  rintro e w15 ⟨rfl, rfl⟩
  go_wp2_with fail
  with_reducible refine N4.mono ?_
  rintro e w15 ⟨rfl, rfl⟩
  go_wp2_with fail
  with_reducible refine N5.mono ?_
  rintro e w15 ⟨rfl, rfl⟩
  go_wp2_with fail
  with_reducible refine N6.mono ?_
  rintro e w16 ⟨rfl, c16, i16, s16, o16⟩
  have T16 : Step No c w c16 w16 := T13.trans ((s14.ofNo.trans s16).own2 PP.out.2.2.2.1 PP.out.2.2.2.2)
  have D1 := deep_any 1 w16 ⟨by decide, by decide⟩
  have D0 := deep_any 0 w16 ⟨by decide, by decide⟩
  rw [show deepL 1 = 1 by decide] at D1
  rw [show deepL 0 = 0 by decide] at D0
  clear N2 N3 N4 N5 N6 i16 s14 s16 T13 PP
  go_wp2_with fail
  with_reducible refine D1.mono ?_
  rintro e w17 ⟨rfl, rfl⟩
  go_wp2_with fail
  with_reducible refine D0.mono ?_
  rintro e w17 ⟨rfl, rfl⟩
  clear D1 D0
  obtain ⟨x1, x2, x3⟩ := put_list (T := TPair) o16 0 (xss := [[.int .i64 1, .int .i64 2], [.int .i64 2, .int .i64 4]]) (l := [(1, 2), (2, 4)]) ⟨⟨rfl, ⟨by decide, by decide⟩, ⟨by decide, by decide⟩⟩, ⟨rfl, ⟨by decide, by decide⟩, ⟨by decide, by decide⟩⟩, trivial⟩ (cs := #[.int .i64 1, .int .i64 2, .int .i64 2, .int .i64 4]) rfl (n := 2) rfl (by decide) 36
  obtain ⟨y1, y2, y3⟩ := put_list (T := TTri) x1 0 (xss := [[.int .i64 1, .int .i64 4, .bool false], [.int .i64 1, .int .i64 2, .bool true], [.int .i64 2, .int .i64 4, .bool true]]) (l := [⟨1, 4, false⟩, ⟨1, 2, true⟩, ⟨2, 4, true⟩]) ⟨rfl, rfl, rfl, trivial⟩ (cs := #[.int .i64 1, .int .i64 4, .bool false, .int .i64 1, .int .i64 2, .bool true, .int .i64 2, .int .i64 4, .bool true]) rfl (n := 3) rfl (by decide) 41
  obtain ⟨z1, z2, z3⟩ := put_list (T := TInt .i64) y1 0 (xss := [[.int .i64 4], [.int .i64 2]]) (l := [4, 2]) ⟨⟨rfl, ⟨by decide, by decide⟩⟩, ⟨rfl, ⟨by decide, by decide⟩⟩, trivial⟩ (cs := #[.int .i64 4, .int .i64 2]) rfl (n := 2) rfl (by decide) 3
  have P12 := plans_yes z1 1 4 (x2.kn (y3.trans z3)) ⟨by decide, by decide⟩ ⟨by decide, by decide⟩ (by decide) (by decide) (by decide) (ts := [⟨1, 4, false⟩, ⟨1, 2, true⟩, ⟨2, 4, true⟩]) (asl := [2]) (dn := true) (by rfl) (y2.kn z3) z2
  have T17 := ((T16.trans x3).trans y3).trans z3
  simp only [World.size_alloc] at P12
  clear x1 x2 x3 y1 y2 y3 z1 z2 z3 T16 o16
  go_wp2_with fail
  refine P12.mono ?_
  rintro e w18 ⟨rfl, c18, s18, o18⟩
  have A1 := awake23_any o18
  have T18 := T17.trans s18
  clear P12 T17 s18 o18
  go_wp2_with fail
  with_reducible refine A1.mono ?_
  rintro e w19 ⟨rfl, c19, s19, o19⟩
  obtain ⟨y1, y2, y3⟩ := put_list (T := TTri) o19 0 (xss := [[.int .i64 1, .int .i64 3, .bool false], [.int .i64 1, .int .i64 2, .bool false]]) (l := [⟨1, 3, false⟩, ⟨1, 2, false⟩]) ⟨rfl, rfl, trivial⟩ (cs := #[.int .i64 1, .int .i64 3, .bool false, .int .i64 1, .int .i64 2, .bool false]) rfl (n := 2) rfl (by decide) 41
  obtain ⟨z1, z2, z3⟩ := put_list (T := TInt .i64) y1 0 (xss := [[.int .i64 3], [.int .i64 2]]) (l := [3, 2]) ⟨⟨rfl, ⟨by decide, by decide⟩⟩, ⟨rfl, ⟨by decide, by decide⟩⟩, trivial⟩ (cs := #[.int .i64 3, .int .i64 2]) rfl (n := 2) rfl (by decide) 3
  have P13 := plans_yes z1 1 3 (Sl.nil TPair _ 0 0 _) ⟨by decide, by decide⟩ ⟨by decide, by decide⟩ (by decide) (by decide) (by decide) (ts := [⟨1, 3, false⟩, ⟨1, 2, false⟩]) (asl := [2]) (dn := false) (by rfl) (y2.kn z3) z2
  have T19 := ((T18.trans s19).trans y3).trans z3
  simp only [World.size_alloc] at P13
  clear A1 y1 y2 y3 z1 z2 z3 T18 s19 o19
  go_wp2_with fail
  refine P13.mono ?_
  rintro e w20 ⟨rfl, c20, s20', o20⟩
  go_wp2
  go_ret
  exact ⟨rfl, c20, T19.trans s20', o20⟩
end
end Go.Proofs.Ytcagfdmafelbkab
