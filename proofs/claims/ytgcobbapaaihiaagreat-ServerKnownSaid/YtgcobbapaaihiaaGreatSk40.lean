/- ServerKnown, part 40: lemmas, each with its own conditions. -/
import Derived.Test.YtgcobbapaaihiaaGreatSk28
import Derived.Test.YtgcobbapaaihiaaGreatSk39
set_option linter.unusedVariables false
set_option linter.unusedSimpArgs false
namespace Go.Proofs.YtgcobbapaaihiaaGreat
open Go.RowKit

theorem results_tmp_cell {fn : Func} {p q : Tmp} {ty : TypeId} (h : fn.results = #[.tmp q, .cell p ty]) (tmps : Array Value) (W : World) (b : Nat) (cs : List Value) (d : TypeDesc) (hp : tmps[p]? = some (.pointer (some ⟨b, 0, none⟩)))
    (hc : W.rangeAt b 0 cs) (hu : Tryz.prog.underlying ty = some d) (hd : d.isRow = true) (hi : (Tryz.prog.info? ty).map (·.size) = some cs.length) :
    (results fn tmps).run Tryz.prog W = .ok (.tuple #[tmps.getD q undef, .agg cs.toArray]) W := by
  have := run_loadVar_mid W b 0 ty cs d hc hu hd hi
  have hp' : tmps[p]?.getD undef = .pointer (some ⟨b, 0, none⟩) := by rw [hp]; rfl
  simp [results, h, hp', asAddr, this]

theorem encV_l1 : encV l1 = numB 1 ++ ([1, 0, 0, 0] ++ (numB 3 ++ [])) := by decide

section
variable {c : Col} {w : World}

/-- A fault's block, written by the same. -/
theorem At.fault {b k : Nat} (ho : Ok c w) (hk : k ≠ 0) (h : At c w b k [.int .i64 0, .int .i64 0]) :
    At c ((w.setCell ⟨b, 0, none⟩ (.int .i64 0)).setCell ⟨b, 1, none⟩ (.int .i64 0)) b k [.int .i64 0, .int .i64 0] ∧ Ok c ((w.setCell ⟨b, 0, none⟩ (.int .i64 0)).setCell ⟨b, 1, none⟩ (.int .i64 0)) ∧ Step (One k) c w c ((w.setCell ⟨b, 0, none⟩ (.int .i64 0)).setCell ⟨b, 1, none⟩ (.int .i64 0)) ∧
      w.cell? ⟨b, 0, none⟩ = some (.int .i64 0) ∧ w.cell? ⟨b, 1, none⟩ = some (.int .i64 0) ∧ w.frozen? ⟨b, 0, none⟩ = false ∧ w.frozen? ⟨b, 1, none⟩ = false :=
  ⟨(h.setN (i := 0) (by simp) (.int .i64 0)).setN (i := 1) (by simp) (.int .i64 0), (ho.setCell _ _).setCell _ _, ((Step.refl (K := One k)).setCell (a := ⟨b, 0, none⟩) (.inr h.col) _).setCell (a := ⟨b, 1, none⟩) (.inr h.col) _,
    h.get (i := 0) rfl, h.get (i := 1) rfl, h.fz ho hk 0, h.fz ho hk 1⟩

set_option maxRecDepth 100000 in
set_option maxHeartbeats 6400000 in
theorem valsD_ok (hok : Ok c w) {kx : Nat} {v : Value} (hv : Sl TByte c kx 0 w v (encV l1)) :
    Calls Tryz.prog 108 #[v] w fun r w' => ∃ x, r = .returned (.tuple #[x, .agg #[.int .i64 0, .int .i64 0]]) ∧ ∃ c', Sl TVal c' 0 0 w' x l1 ∧ Step No c w c' w' ∧ Ok c' w' := by
  obtain ⟨q, hq, hqc⟩ := hok.top kx
  have hq0 : q ≠ 0 := by omega
  obtain ⟨af, of_, sf⟩ := newAt hok [.int .i64 0, .int .i64 0] 74 (q + 2)
  obtain ⟨fb, hfb⟩ : ∃ b, w.heap.size = b := ⟨_, rfl⟩
  rw [hfb] at af of_ sf
  obtain ⟨W1, hW1⟩ : ∃ W, w.alloc (.cells #[.int .i64 0, .int .i64 0] 74) = W := ⟨_, rfl⟩
  have hW1' : w.alloc (.cells ([Value.int .i64 0, .int .i64 0] : List Value).toArray 74) = W1 := hW1
  rw [hW1'] at af of_ sf
  have hbl : (encV l1).length ≤ 100 := by decide
  obtain ⟨bs, hbs⟩ : ∃ bs, encV l1 = bs := ⟨_, rfl⟩
  have hV := encV_l1
  rw [hbs] at hv hV hbl
  have NR := newReader_any of_ (hv.kn sf) (by omega) q
  obtain ⟨va, vd, rfl, _⟩ := hv.form
  have HB := Lib.hid (And.intro hV hqc)
  have hL : bs.length = 8 := by rw [← hbs]; decide
  have HL := Lib.hid hL
  have X := Lib.hid (And.intro af sf)
  clear af of_ sf hok hv hV hqc hbs hL
  go_enter Tryz.func108, Tryz.ntmps108
  go_wp2_with fail
  (try rw [hfb])
  (try rw [hW1])
  with_reducible refine NR.mono ?_
  rintro e w2 ⟨p, rfl, c2, i2, s2, o2, _⟩
  have N1 := Num_any o2 i2 hq0 1 (by omega) (rest := [1, 0, 0, 0] ++ (numB 3 ++ [])) (by rw [List.drop_zero]; exact HB.out.1)
  have X2 := Lib.hid (And.intro (X.out.1.kn s2) (X.out.2.trans s2))
  clear NR X i2 s2 o2
  go_wp2_with fail
  with_reducible refine N1.mono ?_
  rintro e w3 ⟨rfl, c3, i3, s3, o3⟩
  have hn1 : (numB 1).length = 2 := by decide
  rw [hn1] at i3
  have RK := RKey_any o3 i3 hq0 (by rw [HL.out]; omega)
  have eK : (bs.drop (0 + 2)).take 4 = [1, 0, 0, 0] := by rw [HB.out.1]; decide
  have eB : bC ([1, 0, 0, 0] : List UInt8) = [.int .u8 1, .int .u8 0, .int .u8 0, .int .u8 0] := rfl
  rw [eK, eB] at RK
  have X3 := Lib.hid (And.intro (X2.out.1.keep s3 (show ¬ q + 2 = q by omega)) (X2.out.2.ofNo.trans s3))
  clear N1 X2 i3 s3 o3 eK eB
  go_wp2_with fail
  refine wp_loop_rounds 2 ?_
  rw [rounds_succ]
  go_wp2_with fail
  with_reducible refine RK.mono ?_
  rintro e w4 ⟨rfl, c4, i4, s4, o4⟩
  obtain ⟨av, ov, sv⟩ := newAt o4 [.int .u8 1, .int .u8 0, .int .u8 0, .int .u8 0, .int .i64 0] 93 (q + 3)
  obtain ⟨vb, hvb⟩ : ∃ b, w4.heap.size = b := ⟨_, rfl⟩
  rw [hvb] at av ov sv
  have N2 := Num_any ov (i4.kn sv) hq0 3 (by omega) (rest := []) (by rw [HB.out.1]; decide)
  have hn3 : (numB 3).length = 2 := by decide
  rw [hn3] at N2
  have X4 := Lib.hid (And.intro ((X3.out.1.keep s4 (show ¬ q + 2 = q by omega)).kn sv) (And.intro ((X3.out.2.trans s4).trans sv.ofNo) av))
  obtain ⟨W4, hW4⟩ : ∃ W, w4.alloc (.cells #[.int .u8 1, .int .u8 0, .int .u8 0, .int .u8 0, .int .i64 0] 93) = W := ⟨_, rfl⟩
  have hW4' : w4.alloc (.cells ([Value.int .u8 1, .int .u8 0, .int .u8 0, .int .u8 0, .int .i64 0] : List Value).toArray 93) = W4 := hW4
  rw [hW4'] at N2 X4
  have HW4 := Lib.hid hW4
  clear RK X3 i4 s4 o4 av ov sv hW4 hW4'
  go_wp2_with fail
  (try rw [hvb])
  (try rw [HW4.out])
  with_reducible refine N2.mono ?_
  rintro e w5 ⟨rfl, c5, i5, s5, o5⟩
  obtain ⟨xf, xs, xv⟩ := X4.out
  have xf5 := xf.keep s5 (show ¬ q + 2 = q by omega)
  have xv5 := xv.keep s5 (show ¬ q + 3 = q by omega)
  have y4 := xv5.get (i := 4) rfl
  have yf4 := xv5.fz o5 (Nat.succ_ne_zero _) 4
  have xv6 : At c5 (w5.setCell ⟨vb, 4, none⟩ (.int .i64 3)) vb (q + 3) [.int .u8 1, .int .u8 0, .int .u8 0, .int .u8 0, .int .i64 3] := xv5.setN (i := 4) (by simp) (.int .i64 3)
  have s6 : Step (One (q + 3)) c5 w5 c5 (w5.setCell ⟨vb, 4, none⟩ (.int .i64 3)) := (Step.refl (K := One (q + 3))).setCell (a := ⟨vb, 4, none⟩) (.inr xv5.col) _
  have o6 := o5.setCell ⟨vb, 4, none⟩ (.int .i64 3)
  have i6 := i5.keep s6 (show ¬ q = q + 3 by omega) (show ¬ 0 = q + 3 by omega)
  have xf6 := xf5.keep s6 (show ¬ q + 2 = q + 3 by omega)
  have st6 : Step (fun j => q ≤ j) c w c5 (w5.setCell ⟨vb, 4, none⟩ (.int .i64 3)) := ((xs.trans s5).mono fun j (e : j = q) => by omega).trans (s6.mono fun j (e : j = q + 3) => by omega)
  obtain ⟨W6, hW6⟩ : ∃ W, w5.setCell ⟨vb, 4, none⟩ (.int .i64 3) = W := ⟨_, rfl⟩
  rw [hW6] at xv6 s6 o6 i6 xf6 st6
  have z0 := xv6.get (i := 0) rfl
  have z1 := xv6.get (i := 1) rfl
  have z2 := xv6.get (i := 2) rfl
  have z3 := xv6.get (i := 3) rfl
  have z4 := xv6.get (i := 4) rfl
  obtain ⟨x1, x2, x3⟩ := put_one (T := TVal) (x := ⟨[1, 0, 0, 0], 3⟩) (vs := [.int .u8 1, .int .u8 0, .int .u8 0, .int .u8 0, .int .i64 3]) (k2 := 0) o6 ⟨rfl, rfl, ⟨by decide, by decide⟩⟩ 93
  have on := Own.nil TVal 93 c5 (q + 4) 0 (W6.alloc (.cells [Value.int .u8 1, .int .u8 0, .int .u8 0, .int .u8 0, .int .i64 3].toArray 93))
  have hq4 : 0 ≠ q + 4 := by omega
  have hm1 : ([] : List Vld).length + [(⟨[1, 0, 0, 0], 3⟩ : Vld)].length ≤ maxLen := by simp [maxLen]
  have hm2 : (([] : List Vld).length + [(⟨[1, 0, 0, 0], 3⟩ : Vld)].length) * 16 ≤ 140737488355328 := by simp
  have X6 := Lib.hid (And.intro xf6 (And.intro st6 (And.intro i6 x3)))
  clear N2 X4 i5 s5 o5 xf xs xv xf5 xv5 xv6 s6 o6 i6 xf6 st6 x3
  go_wp2_with (at_builtin; refine wpList_app TVal x1 rfl _ _ 57 rfl 93 Tryz.underlying57 infoVal3 rfl (by decide) rfl rfl on x2 hq4 hm1 hm2 ?_; rintro v7 w7 c7 b1 b2 b3 -; obtain ⟨va7, vc7, rfl, _⟩ := b1.sl.form; have X7 := Lib.hid (And.intro b1 (And.intro b2 b3)); clear b1 b2 b3 x1 x2 on)
  rw [rounds_succ]
  obtain ⟨b1, b2, b3⟩ := X7.out
  obtain ⟨xf6, st6, i6, x3⟩ := X6.out
  have i7 := (i6.kn x3).keep b2 (show ¬ q = q + 4 by omega) (show ¬ 0 = q + 4 by omega)
  have EN := end_any b3 i7
  rw [endF_all (by rw [HL.out]; omega)] at EN
  have X8 := Lib.hid (And.intro ((xf6.kn x3).keep b2 (show ¬ q + 2 = q + 4 by omega)) (And.intro ((st6.trans x3.ofNo).trans (b2.mono fun j (e : j = q + 4) => by omega)) b1))
  clear X6 X7 b1 b2 b3 xf6 st6 i6 x3 i7
  go_wp2_with fail
  with_reducible refine EN.mono ?_
  rintro e w8 ⟨rfl, c8, s8, o8⟩
  obtain ⟨xf, xs, xo⟩ := X8.out
  obtain ⟨f1, f2, f3, f4, f5, f6, f7⟩ := (xf.kn s8).fault o8 (Nat.succ_ne_zero _)
  have xo9 := (xo.kn s8).keep f3 (show ¬ q + 4 = q + 2 by omega) (show ¬ 0 = q + 2 by omega)
  have xs9 := (xs.trans s8.ofNo).trans (f3.mono fun j (e : j = q + 2) => by omega)
  obtain ⟨W9, hW9⟩ : ∃ W, (w8.setCell ⟨fb, 0, none⟩ (.int .i64 0)).setCell ⟨fb, 1, none⟩ (.int .i64 0) = W := ⟨_, rfl⟩
  rw [hW9] at f1 f2 f3 xo9 xs9
  have g0 := f1.get (i := 0) rfl
  have g1 := f1.get (i := 1) rfl
  have VC := vcheck_any f2 xo9.sl (by decide)
  rw [show checkV ([] ++ [(⟨[1, 0, 0, 0], 3⟩ : Vld)]) = 0 from l1_ok.check] at VC
  have X9 := Lib.hid (And.intro f1 (And.intro xs9 xo9))
  clear EN X8 s8 o8 xf xs xo f1 f2 f3 xo9 xs9
  go_wp2_with fail
  (try rw [hW9])
  refine VC.mono ?_
  rintro e wA ⟨rfl, cA, sA, oA⟩
  obtain ⟨xf, xs, xo⟩ := X9.out
  have xfA := xf.kn sA
  have h0 := xfA.get (i := 0) rfl
  have hf0 := xfA.fz oA (Nat.succ_ne_zero _) 0
  have xfB : At cA (wA.setCell ⟨fb, 0, none⟩ (.int .i64 0)) fb (q + 2) [.int .i64 0, .int .i64 0] := xfA.setN (i := 0) (by simp) (.int .i64 0)
  have sB : Step (One (q + 2)) cA wA cA (wA.setCell ⟨fb, 0, none⟩ (.int .i64 0)) := (Step.refl (K := One (q + 2))).setCell (a := ⟨fb, 0, none⟩) (.inr xfA.col) _
  have oB := oA.setCell ⟨fb, 0, none⟩ (.int .i64 0)
  have xoB := (xo.kn sA).keep sB (show ¬ q + 4 = q + 2 by omega) (show ¬ 0 = q + 2 by omega)
  have xsB := (xs.trans sA.ofNo).trans (sB.mono fun j (e : j = q + 2) => by omega)
  obtain ⟨WB, hWB⟩ : ∃ W, wA.setCell ⟨fb, 0, none⟩ (.int .i64 0) = W := ⟨_, rfl⟩
  rw [hWB] at xfB sB oB xoB xsB
  have m0 := xfB.get (i := 0) rfl
  have m1 := xfB.get (i := 1) rfl
  have zf0 := xfB.fz oB (Nat.succ_ne_zero _) 0
  have zf1 := xfB.fz oB (Nat.succ_ne_zero _) 1
  have sd : Step No cA WB cA WB.drew := Step.rf.drewN 1
  have od : Ok cA WB.drew := oB.drewN 1
  obtain ⟨f1, f2, f3, f4, f5, f6, f7⟩ := (xfB.kn sd).fault od (Nat.succ_ne_zero _)
  have KK : (fun W : World => W.cell? ⟨fb, 0, none⟩ = some (.int .i64 0) ∧ W.cell? ⟨fb, 1, none⟩ = some (.int .i64 0) ∧ W.frozen? ⟨fb, 0, none⟩ = false ∧ W.frozen? ⟨fb, 1, none⟩ = false) WB.drew := ⟨f4, f5, f6, f7⟩
  have xoC := (xoB.kn sd).keep f3 (show ¬ q + 4 = q + 2 by omega) (show ¬ 0 = q + 2 by omega)
  have slC := (xoC.turn (k := 0) (show 0 ≠ q + 4 by omega)).sl
  have sAll : Step No c w (cA.turn (q + 4) 0) ((WB.drew.setCell ⟨fb, 0, none⟩ (.int .i64 0)).setCell ⟨fb, 1, none⟩ (.int .i64 0)) := (((xsB.trans sd.ofNo).trans (f3.mono fun j (e : j = q + 2) => by omega)).turn (show q ≤ q + 4 by omega)).drop fun b _ e => by have := HB.out.2 b; omega
  have FL := Lib.hid (And.intro f1.cells (And.intro slC (And.intro sAll (f2.turn (q := q + 4) (k := 0) (by omega)))))
  clear VC X9 sA oA xf xs xo xfA xfB sB oB xoB xsB sd od f1 f2 f3 f4 f5 f6 f7 xoC slC sAll
  go_wp2_with fail
  (try rw [hWB])
  refine region_planM (fun W => W.cell? ⟨fb, 0, none⟩ = some (.int .i64 0) ∧ W.cell? ⟨fb, 1, none⟩ = some (.int .i64 0) ∧ W.frozen? ⟨fb, 0, none⟩ = false ∧ W.frozen? ⟨fb, 1, none⟩ = false) (fun i => !([3] : List Nat).contains i) (by kernel_rfl) ?_
  refine wpAnyM.takeT (i := 0) (v := _) (some 40) rfl rfl (by kernel_rfl) (by kernel_rfl) (by kernel_rfl) (by kernel_rfl) (by kernel_rfl) (fun _ _ _ h => h) (Or.inl ⟨by rfl, fun W hW => by first | (obtain ⟨q0, q1, q2, q3⟩ := hW; go_simp <;> rfl) | (obtain ⟨q0, q1, q2, q3⟩ := hW; go_simp; done)⟩) KK ?_
  (try simp only [Act.put, List.setIfInBounds_toArray, List.set_cons_zero, List.set_cons_succ])
  refine wpAnyM.takeT (i := 1) (v := _) (some 41) rfl rfl (by kernel_rfl) (by kernel_rfl) (by kernel_rfl) (by kernel_rfl) (by kernel_rfl) (fun _ _ _ h => h) (Or.inl ⟨by rfl, fun W hW => by first | (obtain ⟨q0, q1, q2, q3⟩ := hW; go_simp <;> rfl) | (obtain ⟨q0, q1, q2, q3⟩ := hW; go_simp; done)⟩) KK ?_
  (try simp only [Act.put, List.setIfInBounds_toArray, List.set_cons_zero, List.set_cons_succ])
  refine wpAnyM.one (i := 2) (by kernel_rfl) rfl (fun KQ hK => ?_)
  go_simp
  refine hK.out _ _ (fun _ => KK) ?_
  clear hK KQ
  (try simp only [Act.put, List.setIfInBounds_toArray, List.set_cons_zero, List.set_cons_succ])
  refine wpAnyM.one (i := 3) (by kernel_rfl) rfl (fun KQ hK => ?_)
  go_simp
  refine hK.out _ _ (fun h => absurd h (by decide)) ?_
  clear hK KQ
  (try simp only [Act.put, List.setIfInBounds_toArray, List.set_cons_zero, List.set_cons_succ])
  refine wpAnyM.done (by kernel_rfl) ?_ _
  go_wp2_with fail
  obtain ⟨f1, f2, f3, f4⟩ := FL.out
  refine bodyPost_ret (results_tmp_cell rfl _ _ fb [.int .i64 0, .int .i64 0] _ rfl f1 Tryz.underlying74 rfl info_fault) rfl ⟨_, rfl, cA.turn (q + 4) 0, f2, f3, f4⟩
end
end Go.Proofs.YtgcobbapaaihiaaGreat
