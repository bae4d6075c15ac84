/- The law PivotPlanned: its walk. -/
import Derived.Test.YtcagfdmafelbkabPivK
import Derived.Test.YtcagfdmafelbkabPivQ
import Derived.Test.YtcagfdmafelbkabPivF
import Derived.Test.YtcagfdmafelbkabPivH
import Derived.Test.YtcagfdmafelbkabPiv10
import Derived.Sort.CutIn
import Derived.Deep.CutBlock
set_option linter.unusedVariables false
set_option linter.unusedSimpArgs false
namespace Go.Proofs.Ytcagfdmafelbkab
open Go.RowKit

private theorem infoPair' : (Try.prog.info? 36).map (fun i => (i.zero, i.size, i.bytes)) = some (some (.agg #[.int .i64 0, .int .i64 0]), 2, 16) := by kernel_rfl
private theorem has_small {x : Int} (h1 : 0 ≤ x) (h2 : x ≤ 1000000) : IntKind.i64.has x := by
  constructor
  · simp only [IntKind.min, IntKind.signed, IntKind.bits]; simp; omega
  · simp only [IntKind.max, IntKind.signed, IntKind.bits]; simp; omega
private theorem n5' {a : Nat} (h1 : a ≠ 5) : ¬ One 5 a := h1

/-- What the loop that appends keeps. -/
structure InvP (R T : Int) (m : Nat) (w0 : World) (h : Int) (va : Value) (c : Col) (w : World) : Prop where
  lo : R ≤ h
  hi : h ≤ T
  step : Step (One 5) (fun _ => 0) w0 c w
  ok : Ok c w
  st : ∃ A, Own TPair 36 c 5 0 w va A ∧ A.length ≤ m + (h - R).toNat ∧ ∀ x, R ≤ x → x < h → (x, x + 1) ∈ A

set_option maxRecDepth 100000 in
set_option maxHeartbeats 3200000 in
theorem planned_law {w : World} {v : Value} {l : List Pair} (h : Sl TPair (fun _ => 0) 0 0 w v l) (r f : Int) (adj : Bool) :
    Calls Try.prog 4 #[.int .i64 r, .int .i64 f, v, .bool adj] w fun r w' => r = .returned (.bool true) ∧ Below w.heap.size w w' := by
  have hok : Ok (fun _ => 0) w := Ok.zero w
  have bel : ∀ {K : Nat → Prop} {c' : Col} {w' : World}, Step K (fun _ => 0) w c' w' → ¬ K 0 → Below w.heap.size w w' := fun h k0 => h.below (fun _ _ => k0)
  have hm := h.length_le
  unfold maxLen at hm
  have h' := Lib.hid h
  obtain ⟨va, vc, rfl, _⟩ := h.form
  have AW := known_any hok
  clear h
  by_cases hlong : 200 < l.length
  · go_enter Try.func4, Try.ntmps4
    go_wp2_with fail
    with_reducible refine AW.mono ?_
    rintro e w2 ⟨rfl, c2, s2, _⟩
    go_wp2_with fail
    go_ret
    exact ⟨rfl, bel s2 (fun h => h)⟩
  go_enter Try.func4, Try.ntmps4
  go_wp2_with fail
  with_reducible refine AW.mono ?_
  rintro e w1 ⟨rfl, c1, s1, o1⟩
  have K1 := pick_any f 100 w1 (by decide) (by decide)
  have K2 := pick_any r 1000 w1 (by decide) (by decide)
  clear AW
  go_wp2_with fail
  with_reducible refine K1.mono ?_
  rintro e w2 ⟨⟨p1, rfl, a1, a2⟩, rfl⟩
  obtain ⟨F, hF⟩ : ∃ F, 1 + p1 = F := ⟨_, rfl⟩
  have f1 : 1 ≤ F := by omega
  have f2 : F ≤ 100 := by omega
  have hw1 : IntKind.i64.wrap (1 + p1) = F := by rw [hF]; exact IntWalk.i64_in _ (by omega)
  clear K1 a1 a2 hF
  go_wp2_with fail
  with_reducible refine K2.mono ?_
  rintro e w2 ⟨⟨p2, rfl, a1, a2⟩, rfl⟩
  obtain ⟨R, hR⟩ : ∃ R, 1 + p2 = R := ⟨_, rfl⟩
  have r1 : 1 ≤ R := by omega
  have r2 : R ≤ 1000 := by omega
  have hw2 : IntKind.i64.wrap (1 + p2) = R := by rw [hR]; exact IntWalk.i64_in _ (by omega)
  obtain ⟨T, hT⟩ : ∃ T, R + F = T := ⟨_, rfl⟩
  have hw3 : IntKind.i64.wrap (R + F) = T := by rw [hT]; exact IntWalk.i64_in _ (by omega)
  obtain ⟨x1, x2, x3⟩ := Own.new0 TPair 36 o1 5 0
  have hx' := (h'.out.kn s1).kn x3
  have hml : ([] : List Pair).length + l.length ≤ maxLen := by simp [maxLen]; omega
  have hbl : (([] : List Pair).length + l.length) * 16 ≤ 140737488355328 := by simp; omega
  have h01 : (0 : Nat) ≠ 5 := by decide
  have T0 := Lib.hid (s1.trans x3)
  clear K2 a1 a2 hR s1 o1 x3
  go_upto_block 0 with (at_builtin; refine wpList_app TPair x2 rfl _ _ 35 rfl 36 Try.underlying35 infoPair' rfl (by decide) rfl rfl x1 hx' h01 hml hbl ?_; rintro v' w2 c2 b1 b2 b3 -; rw [List.nil_append] at b1; have T1 := T0.out.ofNo.trans b2; have I0 : InvP R T l.length w R v' c2 w2 := ⟨Int.le_refl _, by omega, T1, b3, l, b1, by omega, fun x h1 h2 => by omega⟩; have I0' := Lib.hid I0; clear T1 I0 b1 b2 b3 x1 x2 hx')
  clear hml hbl h01 T0
  go_cut [10] from 21 (fun v wr => ∃ c A, Own TPair 36 c 5 0 wr v A ∧ A.length ≤ 300 ∧ (adj = true → ∀ x, R ≤ x → x < T → (x, x + 1) ∈ A) ∧ Step (One 5) (fun _ => 0) w c wr ∧ Ok c wr)
  case first =>
    go_wp2_with fail
    go_loopw [10, 11] (fun va vh wr => ∃ (hh : Int) (cr : Col), vh = .int .i64 hh ∧ InvP R T l.length w hh va cr wr) (fun _ vh _ => (T - intOf vh).toNat)
    case atStart => exact ⟨R, _, rfl, I0'.out⟩
    case round =>
      obtain ⟨hh, cr, rfl, I⟩ := hrel
      have hlo := I.lo
      have hhi := I.hi
      obtain ⟨A, ow, hal, hin⟩ := I.st
      rcases adj with _ | _
      · have Y := Lib.hid (And.intro I (And.intro ow (And.intro hal hin)))
        clear I ow hal hin
        go_wp2_with fail
        go_meet
        case rel =>
          obtain ⟨I, ow, hal, hin⟩ := Y.out
          exact ⟨cr, A, ow, by omega, fun h => (by cases h), I.step, I.ok⟩
      · by_cases hlt : hh < T
        · obtain ⟨va2, vc2, rfl, _⟩ := ow.sl.form
          obtain ⟨na, hna⟩ : ∃ na, A.length = na := ⟨_, rfl⟩
          have hhas : IntKind.i64.has hh := has_small (by omega) (by omega)
          have hhas2 : IntKind.i64.has (hh + 1) := has_small (by omega) (by omega)
          have hwh : IntKind.i64.wrap (hh + 1) = hh + 1 := IntWalk.i64_in _ (by omega)
          obtain ⟨x1, x2, x3⟩ := put_one (T := TPair) (x := (hh, hh + 1)) (vs := [.int .i64 hh, .int .i64 (hh + 1)]) (k2 := 0) I.ok ⟨rfl, hhas, hhas2⟩ 36
          have ow6 := ow.kn x3
          have hn1 : A.length + [((hh, hh + 1) : Pair)].length ≤ maxLen := by simp [maxLen]; omega
          have hn2 : (A.length + [((hh, hh + 1) : Pair)].length) * 16 ≤ 140737488355328 := by simp; omega
          have h01 : (0 : Nat) ≠ 5 := by decide
          have t6 := I.step.trans x3.ofNo
          have hin' : ∀ x, R ≤ x → x < hh + 1 → (x, x + 1) ∈ A ++ [(hh, hh + 1)] := fun x h1 h2 => by
            rcases (by omega : x < hh ∨ x = hh) with h3 | rfl
            · exact List.mem_append_left _ (hin x h1 h3)
            · exact List.mem_append_right _ (List.mem_singleton.2 rfl)
          have hal' : (A ++ [((hh, hh + 1) : Pair)]).length ≤ l.length + (hh + 1 - R).toNat := by simp; omega
          have Y := Lib.hid (And.intro t6 (And.intro hin' hal'))
          rw [hna] at ow6 ⊢
          clear I ow hal hin x3 t6 hin' hal'
          go_wp2_with (at_builtin; refine wpList_app TPair x1 rfl _ _ 35 rfl 36 Try.underlying35 infoPair' rfl (by decide) rfl rfl ow6 x2 h01 hn1 hn2 ?_; rintro v6 w6 c6 b1 b2 b3 -; have I6 : InvP R T l.length w (hh + 1) v6 c6 w6 := ⟨by omega, by omega, Y.out.1.trans b2, b3, _, b1, Y.out.2.2, Y.out.2.1⟩; clear b1 b2 b3 x1 x2 ow6)
          go_roundw
          case rel => exact ⟨hh + 1, _, by go_num, I6⟩
          case measure => simp [intOf]; omega
        · have Y := Lib.hid (And.intro I (And.intro ow (And.intro hal hin)))
          clear I ow hal hin
          go_wp2_with fail
          go_meet
          case rel =>
            obtain ⟨I, ow, hal, hin⟩ := Y.out
            exact ⟨cr, A, ow, by omega, fun _ x h1 h2 => hin x h1 (by omega), I.step, I.ok⟩
  case rest =>
    obtain ⟨c3, A, ow, hal, had, s3, o3⟩ := hcut
    obtain ⟨va3, vc3, rfl, _⟩ := ow.sl.form
    have hRH : isH R := ⟨by omega, by omega⟩
    have hTH : isH T := ⟨by omega, by omega⟩
    have hRT : R < T := by omega
    have PM := plan_main o3 R T ow.sl hRH hTH hRT (by omega) (by omega) 6 7
    have HPL := planned A hRH hTH hRT
    have hDA : adj = true → (plan A (newS R T)).2.2 = true := fun e => planned_adj hRH hTH hRT (had e)
    obtain ⟨D, hD⟩ : ∃ D, (plan A (newS R T)).2.2 = D := ⟨_, rfl⟩
    obtain ⟨TL, hTL⟩ : ∃ TL, (plan A (newS R T)).1 = TL := ⟨_, rfl⟩
    obtain ⟨AL, hAL⟩ : ∃ AL, T :: (plan A (newS R T)).2.1 = AL := ⟨_, rfl⟩
    rw [hD, hTL, hAL] at PM HPL
    rw [hD] at hDA
    have n0 : 0 < AL.length := by rw [← hAL]; simp
    have S3 := Lib.hid s3
    clear hD hTL hAL hRH hTH ow had s3 o3
    go_wp2_with fail
    with_reducible refine PM.mono ?_
    rintro e w4 ⟨vt, vb, rfl, c4, y1, y2, s4, o4⟩
    have n1 := HPL.some
    have n2 := HPL.few
    have n3 := HPL.asks
    obtain ⟨ga, offa, capa, rfl, _⟩ := y1.ex n1
    obtain ⟨gb, offb, capb, rfl, _⟩ := y2.ex n0
    have S4 := S3.out.trans s4.ofNo
    have hw4 : IntKind.i64.wrap (2 * F) = 2 * F := IntWalk.i64_in _ (by omega)
    have hw5 : IntKind.i64.wrap (2 * F - 1) = 2 * F - 1 := IntWalk.i64_in _ (by omega)
    have m1 : ((TL.length : Int) == 0) = false := beq_eq_false_iff_ne.2 (by omega)
    have m2 : ¬ F < (AL.length : Int) := by omega
    have m3 : ¬ 2 * F - 1 < (TL.length : Int) := by omega
    have YY := Lib.hid (And.intro y1 (And.intro y2 (And.intro S4 (And.intro o4 (And.intro HPL n0)))))
    have n4 : TL.length ≤ 1000 := by omega
    have n5 : AL.length ≤ 1000 := by omega
    clear PM y1 y2 s4 o4 S3 S4 HPL n2 n3
    go_upto_region 12 with fail
    go_cut [14, 91] from 53 (fun vd v wr => vd = .bool D ∧ v = .bool false ∧ wr = w4)
    case first =>
      rcases adj with _ | _
      · go_wp2_with fail
        go_meet
        case rel => exact ⟨rfl, by simp [m2, m3], rfl⟩
      · have HD := Lib.hid (hDA rfl)
        rw [hDA rfl]
        clear hDA
        go_wp2_with fail
        go_meet
        case rel => exact ⟨by rw [HD.out], by simp [m2, m3], rfl⟩
    case rest =>
      obtain ⟨rfl, rfl, rfl⟩ := hcut
      clear hDA m1 m2 m3 hw4 hw5
      go_wp2_with fail
      go_loopw [16, 17] (fun vi _ wr => ∃ (i m : Nat), i ≤ AL.length ∧ vi = .int .i64 i ∧ wr = wc.drewN m) (fun vi _ _ => AL.length - (intOf vi).toNat)
      case atStart => exact ⟨0, 0, Nat.zero_le _, rfl, rfl⟩
      case round =>
        obtain ⟨i, m, hi, rfl, hwr⟩ := hrel
        by_cases hlt : i < AL.length
        · obtain ⟨z, hz⟩ : ∃ z, AL[i]? = some z := ⟨AL[i], by simp [hlt]⟩
          have HZ := Lib.hid hz
          obtain ⟨z1, z2⟩ := YY.out.2.2.2.2.1.range z (List.mem_of_getElem? hz)
          have z1d : ¬ z ≤ R := by omega
          have z2d : ¬ T < z := by omega
          clear hz
          go_wp2_with fail
          go_loopw [17] (fun vk wr' => ∃ (k m' : Nat), k ≤ i ∧ vk = .int .i64 k ∧ wr' = wc.drewN m') (fun vk _ => i - (intOf vk).toNat)
          case atStart => exact ⟨0, m, Nat.zero_le _, rfl, by first | rfl | exact hwr⟩
          case round =>
            clear hwr
            obtain ⟨k, m', hk, rfl, hwr⟩ := hrel
            have aw : Sl (TInt .i64) c4 7 0 wr (.slice (some ⟨gb, offb, none⟩) AL.length capb) AL := by rw [hwr]; exact YY.out.2.1.kn (Step.rf.drewN m')
            have y0 := num_at aw HZ.out
            have hi0 : (0 : Int) ≤ (i : Int) := by omega
            have hi1 : (i : Int) < (AL.length : Int) := by omega
            by_cases hki : k < i
            · obtain ⟨z', hz'⟩ : ∃ z', AL[k]? = some z' := ⟨AL[k]'(by omega), by rw [List.getElem?_eq_getElem]⟩
              have y1 := num_at aw hz'
              have hne : ¬ z' = z := by
                obtain ⟨b1, e1⟩ := List.getElem?_eq_some_iff.1 HZ.out
                obtain ⟨b2, e2⟩ := List.getElem?_eq_some_iff.1 hz'
                have := List.pairwise_iff_getElem.1 YY.out.2.2.2.2.1.once k i b2 b1 hki
                rw [e1, e2] at this
                exact this
              have hk0 : (0 : Int) ≤ (k : Int) := by omega
              have hk1 : (k : Int) < (AL.length : Int) := by omega
              have hk2 : (k : Int) < (i : Int) := by omega
              have HW := Lib.hid hwr
              clear hwr aw hz'
              go_wp2_with fail
              go_quiet (fail)
              go_wp2_with fail
              go_roundw
              case rel => exact ⟨k + 1, _, by omega, by go_num, by rw [HW.out]; exact World.drewN_drewN _ _ _⟩
              case measure => simp [intOf]; omega
            · have HW := Lib.hid hwr
              have hk2 : ¬ (k : Int) < (i : Int) := by omega
              clear hwr aw
              go_wp2_with fail
              go_roundw
              case rel => exact ⟨i + 1, m', by omega, by go_num, HW.out⟩
              case measure => simp [intOf]; omega
        · have HW := Lib.hid hwr
          clear hwr
          go_wp2_with fail
          go_loopw [18, 19] (fun vb vi wr' => ∃ (i' m' : Nat) (b : Int), i' ≤ TL.length ∧ vi = .int .i64 i' ∧ vb = .int .i64 b ∧ Chain b (TL.drop i') ∧ endB b (TL.drop i') = endB R TL ∧ wr' = wc.drewN m') (fun _ vi _ => TL.length - (intOf vi).toNat)
          case atStart => exact ⟨0, m, R, Nat.zero_le _, rfl, rfl, by simpa using YY.out.2.2.2.2.1.chain, by simp, by first | rfl | exact HW.out⟩
          case round =>
            clear HW hlt hi
            obtain ⟨i', m', b, hi', rfl, rfl, hch, hend, hwr⟩ := hrel
            have aw : Sl TTri c4 6 0 wr (.slice (some ⟨ga, offa, none⟩) TL.length capa) TL := by rw [hwr]; exact YY.out.1.kn (Step.rf.drewN m')
            by_cases hlt : i' < TL.length
            · obtain ⟨x, hx⟩ : ∃ x, TL[i']? = some x := ⟨TL[i'], by simp [hlt]⟩
              have hdr : TL.drop i' = x :: TL.drop (i' + 1) := by rw [List.drop_eq_getElem_cons hlt]; congr; exact (List.getElem?_eq_some_iff.1 hx).2
              rw [hdr] at hch hend
              obtain ⟨hfb, hch⟩ := hch
              have hend : endB (if x.held = true then x.to_ else b) (TL.drop (i' + 1)) = endB R TL := hend
              obtain ⟨t0, t1, t2⟩ := tri_at aw hx
              have AM := among_any (show Sl (TInt .i64) c4 7 0 wr (.slice (some ⟨gb, offb, none⟩) AL.length capb) AL by rw [hwr]; exact YY.out.2.1.kn (Step.rf.drewN m')) (YY.out.2.2.2.2.1.tos x (List.mem_of_getElem? hx))
              obtain ⟨xt, hxt⟩ : ∃ xt, x.to_ = xt := ⟨_, rfl⟩
              obtain ⟨hb, hhb⟩ : ∃ hb, x.held = hb := ⟨_, rfl⟩
              rw [hfb] at t0
              rw [hxt] at t1 AM hch hend
              rw [hhb] at t2 hch hend
              have hi0 : (0 : Int) ≤ (i' : Int) := by omega
              have hi1 : (i' : Int) < (TL.length : Int) := by omega
              have HC := Lib.hid (And.intro hch (And.intro hend hwr))
              clear hwr aw hx hdr hch hend hfb hxt hhb
              go_wp2_with fail
              with_reducible refine AM.mono ?_
              rintro e w5 ⟨rfl, rfl⟩
              rcases hb with _ | _
              · go_wp2_with fail
                go_roundw
                case rel => exact ⟨i' + 1, m', b, by omega, by go_num, rfl, by simpa using HC.out.1, by simpa using HC.out.2.1, HC.out.2.2⟩
                case measure => simp [intOf]; omega
              · go_wp2_with fail
                go_roundw
                case rel => exact ⟨i' + 1, m', xt, by omega, by go_num, rfl, by simpa using HC.out.1, by simpa using HC.out.2.1, HC.out.2.2⟩
                case measure => simp [intOf]; omega
            · have hb : b = endB R TL := by rw [← hend, List.drop_of_length_le (by omega)]; rfl
              have hD := YY.out.2.2.2.2.1.fin
              rw [← hb] at hD
              obtain ⟨n, hn⟩ : ∃ n, TL.length = n + 1 := ⟨TL.length - 1, by omega⟩
              obtain ⟨x, hx⟩ : ∃ x, TL[n]? = some x := ⟨TL[n]'(by omega), by rw [List.getElem?_eq_getElem]⟩
              have hlast : D = false → x.to_ = x.from_ + 1 ∧ x.held = false := fun h => by
                obtain ⟨pre, y, e1, e2⟩ := YY.out.2.2.2.2.1.last h
                have : n = pre.length := by rw [e1] at hn; simp at hn; omega
                subst this
                rw [e1] at hx
                simp at hx
                subst hx
                exact e2
              have hto := (YY.out.2.2.2.2.1.range _ (YY.out.2.2.2.2.1.tos x (List.mem_of_getElem? hx)))
              obtain ⟨t0, t1, t2⟩ := tri_at aw hx
              have hwl : IntKind.i64.wrap ((TL.length : Int) - 1) = (n : Int) := by rw [hn]; push_cast; rw [Int.add_sub_cancel]; exact IntWalk.i64_in _ (by omega)
              have hj0 : (0 : Int) ≤ (n : Int) := by omega
              have hj1 : (n : Int) < (TL.length : Int) := by omega
              have SW := Lib.hid (show Step (One 5) (fun _ => 0) w c4 wr by rw [hwr]; exact YY.out.2.2.1.drewN m')
              have HT := Lib.hid hT
              obtain ⟨xf, hxf⟩ : ∃ xf, x.from_ = xf := ⟨_, rfl⟩
              obtain ⟨xt, hxt⟩ : ∃ xt, x.to_ = xt := ⟨_, rfl⟩
              obtain ⟨xh, hxh⟩ : ∃ xh, x.held = xh := ⟨_, rfl⟩
              rw [hxf] at t0 hlast
              rw [hxt] at t1 hlast hto
              rw [hxh] at t2 hlast
              clear hwr aw hx hch hend hxf hxt hxh hn hb hi'
              rcases D with _ | _
              · obtain ⟨q1, q2⟩ := hlast rfl
                have hbT : ¬ b = T := by simpa using hD
                have hwx : IntKind.i64.wrap (xf + 1) = xt := by rw [← q1]; exact IntWalk.i64_in _ (by omega)
                rw [q2] at t2
                clear hlast q1 q2 hD hto
                go_wp2_with fail
                go_ret
                exact ⟨by simp [hbT], bel (SW.out.alloc _) (n5' (by decide))⟩
              · have hbT : b = T := by simpa using hD
                subst hbT
                clear hlast hD hto
                go_wp2_with fail
                go_ret
                exact ⟨rfl, bel (SW.out.alloc _) (n5' (by decide))⟩
end Go.Proofs.Ytcagfdmafelbkab
