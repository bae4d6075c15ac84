/- The law PivotDeep: its walk. -/
import Derived.Test.YtcagfdmafelbkabPivK
import Derived.Test.YtcagfdmafelbkabPivE
import Derived.Test.YtcagfdmafelbkabPivF
import Derived.Test.YtcagfdmafelbkabRngS
import Derived.Sort.CutIn
import Derived.Deep.CutRange
set_option linter.unusedVariables false
set_option linter.unusedSimpArgs false
namespace Go.Proofs.Ytcagfdmafelbkab
open Go.RowKit

theorem popS_len' (s : Stk) : (popS s).l.length ≤ s.l.length + 1 := by unfold popS; split <;> simp; omega
theorem splitS_len' (s : Stk) : (splitS s).l.length ≤ s.l.length + 1 := by unfold splitS; split <;> simp

private theorem n12' {a : Nat} (h1 : a ≠ 1) (h2 : a ≠ 2) : ¬ Two 1 2 a := by rintro (h | h) <;> contradiction
private theorem n3' {a : Nat} (h1 : a ≠ 3) : ¬ One 3 a := h1
theorem splitS_low (s : Stk) : (splitS s).low = s.low := by unfold splitS; split <;> rfl

/-- What the loop keeps. -/
structure InvD (D T : Int) (m b : Nat) (w0 : World) (j : Nat) (av : Value) (c : Col) (w : World) : Prop where
  le : j ≤ m
  step : Step (fun j => j ≠ 0) (fun _ => 0) w0 c w
  ok : Ok c w
  st : ∃ s asked, IsSt c 1 2 w b s ∧ DInv D T s asked ∧ Own (TInt .i64) 3 c 3 0 w av asked ∧ asked.length ≤ 1 + j ∧ s.l.length ≤ 1 + j

set_option maxRecDepth 100000 in
set_option maxHeartbeats 6400000 in
theorem deep_law {w : World} {v : Value} {l : List Int} (h : Sl (TInt .i64) (fun _ => 0) 0 0 w v l) (r f : Int) :
    Calls Try.prog 3 #[.int .i64 r, .int .i64 f, v] w fun r w' => r = .returned (.bool true) ∧ Below w.heap.size w w' := by
  have hok : Ok (fun _ => 0) w := Ok.zero w
  have bel : ∀ {K : Nat → Prop} {c' : Col} {w' : World}, Step K (fun _ => 0) w c' w' → ¬ K 0 → Below w.heap.size w w' := fun h k0 => h.below (fun _ _ => k0)
  have hm := h.length_le
  unfold maxLen at hm
  have h' := Lib.hid h
  obtain ⟨va, vc, rfl, _⟩ := h.form
  have AW := known_any hok
  clear h
  by_cases hlong : 300 < l.length
  · go_enter Try.func3, Try.ntmps3
    go_wp2_with fail
    with_reducible refine AW.mono ?_
    rintro e w2 ⟨rfl, c2, s2, _⟩
    go_wp2_with fail
    go_ret
    exact ⟨rfl, bel s2 (fun h => h)⟩
  go_enter Try.func3, Try.ntmps3
  go_wp2_with fail
  with_reducible refine AW.mono ?_
  rintro e w1 ⟨rfl, c1, s1, o1⟩
  have K1 := pick_any f 1048576 w1 (by decide) (by decide)
  clear AW
  go_wp2_with fail
  with_reducible refine K1.mono ?_
  rintro e w2 ⟨⟨p1, rfl, a1, a2⟩, rfl⟩
  obtain ⟨F, hF⟩ : ∃ F, 1 + p1 = F := ⟨_, rfl⟩
  have f1 : 1 ≤ F := by omega
  have f2 : F ≤ 1048576 := by omega
  have hw1 : IntKind.i64.wrap (1 + p1) = F := by rw [hF]; exact IntWalk.i64_in _ (by omega)
  have hw2 : IntKind.i64.wrap (1073741824 - F) = 1073741824 - F := IntWalk.i64_in _ (by omega)
  have K2 := pick_any r (1073741824 - F) w1 (by omega) (by omega)
  have FF := Lib.hid (And.intro f1 f2)
  clear K1 f1 f2 a1 a2 hF
  go_wp2_with fail
  refine K2.mono ?_
  rintro e w2 ⟨⟨p2, rfl, a1, a2⟩, rfl⟩
  obtain ⟨f1, f2⟩ := FF.out
  obtain ⟨R, hR⟩ : ∃ R, 1 + p2 = R := ⟨_, rfl⟩
  obtain ⟨T, hT⟩ : ∃ T, R + F = T := ⟨_, rfl⟩
  have r1 : isH R := ⟨by omega, by omega⟩
  have r2 : isH T := ⟨by omega, by omega⟩
  have r3 : R < T := by omega
  have hw3 : IntKind.i64.wrap (1 + p2) = R := by rw [hR]; exact IntWalk.i64_in _ (by omega)
  have hw4 : IntKind.i64.wrap (R + F) = T := by rw [hT]; exact IntWalk.i64_in _ (by have := r2.2; omega)
  have eF : T - R = F := by omega
  have N1 := newst_ok o1 R T r1 r2 r3 1 2
  have D0 := DInv.new r1 r2 r3
  rw [eF] at D0
  have GG := Lib.hid (And.intro D0 (And.intro r1 (And.intro r2 (And.intro r3 s1))))
  clear K2 f1 f2 a1 a2 hR hT r1 r2 r3 o1 s1 D0 eF hw2
  go_wp2_with fail
  with_reducible refine N1.mono ?_
  rintro e w3 ⟨rfl, c3, i3, s3, o3⟩
  obtain ⟨D0, r1, r2, r3, s1⟩ := GG.out
  obtain ⟨n1, n2, n3⟩ := Own.new (TInt .i64) 3 o3 3 0 [[.int .i64 T]] [T] rfl (by simp [maxLen]) (fun i x hi => by
    have h0 : i = 0 := by have := (List.getElem?_eq_some_iff.1 hi).1; simp at this; omega
    subst h0; simp at hi; subst hi; exact ⟨_, rfl, rfl, r2.has⟩) (by simp [TInt])
  simp only [List.flatten_cons, List.flatten_nil, List.append_nil, List.length_cons, List.length_nil, Nat.zero_add] at n1 n2 n3
  obtain ⟨D, hD⟩ : ∃ D, deepL F = D := ⟨_, rfl⟩
  have DD := fun W => deep_any F W ⟨by have := FF.out.1; simp only [IntKind.min, IntKind.signed, IntKind.bits]; simp; omega, by have := FF.out.2; simp only [IntKind.max, IntKind.signed, IntKind.bits]; simp; omega⟩
  rw [hD] at D0 DD
  have hD1 : 1 ≤ D := by rw [← hD]; exact deepL_pos FF.out.1
  have I0 : InvD D T l.length w1.heap.size w 0 (.slice (some ⟨w3.heap.size, 0, none⟩) 1 1) _ _ := ⟨Nat.zero_le _, ((s1.trans s3).trans n3).ofNo, n2, newS R T, [T], i3.kn n3, D0, n1, by simp, by simp [newS]⟩
  have I0' := Lib.hid I0
  clear I0 n1 n2 n3 i3 s3 o3 D0 r1 r2 r3 s1 N1 hD GG
  go_wp2_with fail
  go_loopw [10, 11, 12, 13, 14, 15, 16, 17] (fun av i _ _ _ _ _ _ wr => ∃ (j : Nat) (cr : Col), i = .int .i64 j ∧ InvD D T l.length w1.heap.size w j av cr wr) (fun _ i _ _ _ _ _ _ _ => l.length - (intOf i).toNat)
  case atStart => exact ⟨0, _, rfl, I0'.out⟩
  case round =>
    obtain ⟨j, cr, rfl, I⟩ := hrel
    have hj := I.le
    by_cases hlt : j < l.length
    · -- ROUND
      obtain ⟨s, asked, i1, dd, ow, hla, hls⟩ := I.st
      have hr1 : 1 ≤ s.root := dd.good.root.1
      obtain ⟨x, hx⟩ : ∃ x, l[j]? = some x := ⟨l[j], by simp [hlt]⟩
      have h7 := h'.out.keep I.step (by simp) (by simp)
      obtain ⟨g0, off, cap, hva, _⟩ := h7.ex (by omega)
      cases hva
      have y0 := num_at h7 hx
      have B1 := base_any i1 hr1
      have K1 := pick_any x 2 wr (by decide) (by decide)
      obtain ⟨av', ac', rfl, _⟩ := ow.sl.form
      obtain ⟨na, hna⟩ : ∃ na, asked.length = na := ⟨_, rfl⟩
      rw [hna] at ow ⊢
      have hnb : na ≤ 1000 := by omega
      have HH := Lib.hid (And.intro i1 (And.intro dd (And.intro ow (And.intro hla (And.intro hls (And.intro hr1 I))))))
      have hj0 : (0 : Int) ≤ (j : Int) := by omega
      have hj1 : (j : Int) < (l.length : Int) := by omega
      clear h7 hx i1 dd ow hla hls hr1 I
      go_wp2_with fail
      with_reducible refine B1.mono ?_
      rintro e w4 ⟨rfl, rfl⟩
      go_wp2_with fail
      with_reducible refine K1.mono ?_
      rintro e w4 ⟨⟨p, rfl, p1, p2⟩, rfl⟩
      obtain ⟨i1, dd, ow, hla, hls, hr1, I⟩ := HH.out
      clear i1 dd ow hla hls hr1 I
      go_upto_if 62 with (fail)
      go_cut [10] from 49 to 167 (fun v wr => ∃ c5 S AS, IsSt c5 1 2 wr w1.heap.size S ∧ Ok c5 wr ∧ DInv D T S AS ∧ Own (TInt .i64) 3 c5 3 0 wr v AS ∧ Step (fun j => j ≠ 0) (fun _ => 0) w c5 wr ∧ s.low ≤ S.low ∧ AS.length ≤ 2 + j ∧ S.l.length ≤ 1 + (j + 1))
      case first =>
        obtain ⟨i1, dd, ow, hla, hls, hr1, I⟩ := HH.out
        rcases (by omega : p = 0 ∨ p = 1) with rfl | rfl
        · have P1 := split_any I.ok i1 dd.good (by decide) (by decide) (by decide) (by omega)
          rcases splitE_cases s with ⟨e1, e2⟩ | ⟨e1, -⟩
          · rw [e1, e2] at P1
            clear B1 K1 i1 dd ow hla hls hr1 I y0 hj0 hj1 e1 e2
            go_wp2_with fail
            with_reducible refine P1.mono ?_
            rintro e w5 ⟨rfl, c5, i5, s5, o5⟩
            have X5 := Lib.hid (And.intro i5 (And.intro s5 o5))
            clear P1 i5 s5 o5
            go_wp2_with fail
            go_loopw [15] (fun k wr => ∃ kk : Nat, kk ≤ na ∧ k = .int .i64 kk ∧ wr = w5) (fun k _ => na - (intOf k).toNat)
            case atStart => exact ⟨0, Nat.zero_le _, rfl, rfl⟩
            case round =>
              obtain ⟨kk, hkk, rfl, rfl⟩ := hrel
              by_cases hlk : kk < na
              · go_wp2_with fail
                go_roundw
                case rel => exact ⟨kk + 1, by omega, by first | omega | rfl | go_num | simp⟩
                case measure => ((try simp [intOf]); try omega)
              · obtain ⟨i1, dd, ow, hla, hls, hr1, I⟩ := HH.out
                obtain ⟨iT, s5, oT⟩ := X5.out
                have dT := dd
                have lT := Int.le_refl s.low
                have owT := ow.keep s5 (n12' (by decide) (by decide)) (n12' (by decide) (by decide))
                have tT := I.step.trans (s5.mono (K' := fun j => j ≠ 0) fun j h => by rcases h with h | h <;> (cases h; decide))
                have nT : asked.length ≤ 2 + j := by omega
                have nS3 : s.l.length ≤ 1 + (j + 1) := by omega
                have nS : s.l.length ≤ 1000000000 := by omega
                clear i1 dd ow hla hls hr1 I s5 X5
                go_wp2_with fail
                go_meet
                case rel => exact ⟨_, _, _, iT, oT, dT, owT, tT, lT, nT, nS3⟩
          · obtain ⟨dT, hne, hhas⟩ := dd.split e1
            obtain ⟨hh, hhh⟩ : ∃ hh, splitH s = hh := ⟨_, rfl⟩
            rw [e1, hhh] at P1
            rw [hhh] at dT hne hhas
            have HB := Lib.hid (And.intro dT (And.intro hne hhas))
            clear B1 K1 i1 dd ow hla hls hr1 I y0 hj0 hj1 e1 dT hne hhas hhh
            go_wp2_with fail
            with_reducible refine P1.mono ?_
            rintro e w5 ⟨rfl, c5, i5, s5, o5⟩
            have X5 := Lib.hid (And.intro i5 (And.intro s5 o5))
            clear P1 i5 s5 o5
            go_wp2_with fail
            go_loopw [15] (fun k wr => ∃ kk : Nat, kk ≤ na ∧ k = .int .i64 kk ∧ wr = w5) (fun k _ => na - (intOf k).toNat)
            case atStart => exact ⟨0, Nat.zero_le _, rfl, rfl⟩
            case round =>
              obtain ⟨kk, hkk, rfl, rfl⟩ := hrel
              by_cases hlk : kk < na
              · obtain ⟨i1, dd, ow, hla, hls, hr1, I⟩ := HH.out
                obtain ⟨i5, s5, o5⟩ := X5.out
                obtain ⟨z, hz⟩ : ∃ z, asked[kk]? = some z := ⟨asked[kk]'(by omega), by rw [List.getElem?_eq_getElem]⟩
                have owk := ow.keep s5 (n12' (by decide) (by decide)) (n12' (by decide) (by decide))
                obtain ⟨ga, offa, capa, hva, _⟩ := owk.sl.ex (by omega)
                cases hva
                have y1 := num_at owk.sl hz
                have hzn := HB.out.2.1 z (List.mem_of_getElem? hz)
                have hk0 : (0 : Int) ≤ (kk : Int) := by omega
                have hk1 : (kk : Int) < (asked.length : Int) := by omega
                clear i1 dd ow hla hls hr1 I i5 s5 o5 hz owk
                go_wp2_with fail
                go_roundw
                case rel => exact ⟨kk + 1, by omega, by first | omega | rfl | go_num | simp⟩
                case measure => ((try simp [intOf]); try omega)
              · obtain ⟨i1, dd, ow, hla, hls, hr1, I⟩ := HH.out
                obtain ⟨i5, s5, o5⟩ := X5.out
                obtain ⟨dT, hne, hhas⟩ := HB.out
                have ow5 := ow.keep s5 (n12' (by decide) (by decide)) (n12' (by decide) (by decide))
                obtain ⟨x1, x2, x3⟩ := put_one (T := TInt .i64) (x := hh) (vs := [.int .i64 hh]) (k2 := 0) o5 ⟨rfl, hhas⟩ 3
                have ow6 := ow5.kn x3
                have i6 := i5.kn x3
                have hn1 : asked.length + [hh].length ≤ maxLen := by simp [maxLen]; omega
                have hn2 : (asked.length + [hh].length) * 8 ≤ 140737488355328 := by simp; omega
                have t6 := (I.step.trans (s5.mono (K' := fun j => j ≠ 0) fun j h => by rcases h with h | h <;> (cases h; decide))).trans x3.ofNo
                have lT : s.low ≤ (splitS s).low := by rw [splitS_low]; exact Int.le_refl _
                have nT : (asked ++ [hh]).length ≤ 2 + j := by simp; omega
                have nS3 : (splitS s).l.length ≤ 1 + (j + 1) := by have := splitS_len' s; omega
                have nS : (splitS s).l.length ≤ 1000000000 := by omega
                have Y := Lib.hid (And.intro i6 (And.intro t6 (And.intro dT (And.intro lT (And.intro nT (And.intro nS3 nS))))))
                clear i1 dd ow hla hls hr1 I i5 s5 o5 dT hne hhas ow5 x3 i6 t6 lT nT nS3 nS X5 HB
                go_wp2_with (at_builtin; refine wpList_app (TInt .i64) x1 rfl _ _ 22 rfl 3 Try.underlying22 infoInt rfl (by decide) rfl rfl ow6 x2 (show (0 : Nat) ≠ 3 by decide) hn1 hn2 ?_; rintro v6 w6 c6 b1 b2 b3 -; obtain ⟨va6, vc6, rfl, _⟩ := b1.sl.form; rw [show (asked ++ [hh]).length = na + 1 by simp [hna]] at b1 ⊢; obtain ⟨i6, t6, dT, lT, nT, nS3, nS⟩ := Y.out; have iT := i6.keep b2 (n3' (by decide)) (n3' (by decide)) (n3' (by decide)); have oT := b3; have owT := b1; have tT := t6.trans (b2.mono (K' := fun j => j ≠ 0) fun j h => by cases h; decide); clear Y i6 t6 b1 b2 b3 x1 x2 ow6)
                go_meet
                case rel => exact ⟨_, _, _, iT, oT, dT, owT, tT, lT, nT, nS3⟩
        · have P1 := pop_any I.ok i1 hr1 (by decide) (by decide) (by decide)
          clear B1 K1 i1 dd ow hla hls hr1 I y0 hj0 hj1
          go_wp2_with fail
          with_reducible refine P1.mono ?_
          rintro e w5 ⟨rfl, iT, s5, oT⟩
          obtain ⟨i1, dd, ow, hla, hls, hr1, I⟩ := HH.out
          obtain ⟨dT, lT⟩ := dd.pop
          have owT := ow.keep s5 (show ¬ (3 = 1) by decide) (show ¬ (0 = 1) by decide)
          have tT := I.step.trans (s5.mono (K' := fun j => j ≠ 0) fun j h => by cases h; decide)
          have nT : asked.length ≤ 2 + j := by omega
          have nS3 : (popS s).l.length ≤ 1 + (j + 1) := by have := popS_len' s; omega
          have nS : (popS s).l.length ≤ 1000000000 := by omega
          clear P1 i1 dd ow hla hls hr1 I s5
          go_wp2_with fail
          go_meet
          case rel => exact ⟨_, _, _, iT, oT, dT, owT, tT, lT, nT, nS3⟩
      case rest =>
        obtain ⟨c5, S, AS, iT, oT, dT, owT, tT, lT, nT, nS2⟩ := hcut
        clear B1 K1 y0 hj0 hj1 hna hnb
        have hrS : 1 ≤ S.root := dT.good.root.1
        have hlenD := dT.len (by omega)
        have hlS : S.l.length ≤ 1000000000 := by omega
        have P8 := heights_any oT iT hrS hlS 4
        have hbl : ¬ S.low < s.low := by omega
        have hdl : ¬ D < (S.l.length : Int) := by omega
        by_cases hl : S.l = []
        · have hlow := dT.done hl
          rw [hl] at P8
          have hbl' : ¬ T < s.low := by rw [← hlow]; exact hbl
          have hd0 : ¬ D < 0 := by omega
          have TT := Lib.hid (And.intro iT (And.intro oT (And.intro dT (And.intro owT (And.intro tT (And.intro nT (And.intro hl (And.intro hlow (And.intro hrS nS2)))))))))
          clear iT oT dT owT tT nT hl hlow hrS lT hlenD hlS nS2 hbl hdl
          go_wp2_with fail
          with_reducible refine P8.mono ?_
          rintro e w8 ⟨v8, c8, rfl, a8, s8, o8⟩
          obtain ⟨va8, vc8, rfl, _⟩ := a8.sl.form
          have B8 := base_any (TT.out.1.kn s8) TT.out.2.2.2.2.2.2.2.2.1
          rw [TT.out.2.2.2.2.2.2.2.1] at B8
          have D8 := done_yes (TT.out.1.kn s8) TT.out.2.2.2.2.2.2.2.2.1 TT.out.2.2.2.2.2.2.1
          have X8 := DD w8
          have SS := Lib.hid (And.intro s8 o8)
          clear P8 a8 s8 o8
          go_wp2_with fail
          with_reducible refine B8.mono ?_
          rintro e w9 ⟨rfl, rfl⟩
          go_wp2_with fail
          with_reducible refine X8.mono ?_
          rintro e w9 ⟨rfl, rfl⟩
          go_wp2_with fail
          with_reducible refine D8.mono ?_
          rintro e w9 ⟨rfl, rfl⟩
          go_wp2_with fail
          with_reducible refine D8.mono ?_
          rintro e w9 ⟨rfl, rfl⟩
          go_wp2_with fail
          with_reducible refine B8.mono ?_
          rintro e w9 ⟨rfl, rfl⟩
          go_wp2_with fail
          refine wp_loop_once ?_
          go_wp2_with fail
          go_roundw
          case rel =>
            obtain ⟨s8, o8⟩ := SS.out
            obtain ⟨iT, oT, dT, owT, tT, nT, hl, hlow, hrS, nS2⟩ := TT.out
            exact ⟨j + 1, c8, by go_num, ⟨by omega, tT.trans s8.ofNo, o8, S, AS, iT.kn s8, dT, owT.kn s8, by omega, nS2⟩⟩
          case measure => simp [intOf]; omega
        · obtain ⟨n, hn⟩ : ∃ n, S.l.length = n := ⟨_, rfl⟩
          have hn0 : 0 < n := by rw [← hn]; exact List.length_pos_iff.2 hl
          rw [hn] at hdl
          have hz : ((n : Int) == 0) = false := by simp; omega
          have hn1 : (0 : Int) < (n : Int) := by omega
          have hn2 : n ≤ 1000000000 := by omega
          have TT := Lib.hid (And.intro iT (And.intro oT (And.intro dT (And.intro owT (And.intro tT (And.intro nT (And.intro hl (And.intro hn (And.intro hrS nS2)))))))))
          clear iT oT dT owT tT nT hl hrS lT hlenD hlS nS2 hn
          go_wp2_with fail
          with_reducible refine P8.mono ?_
          rintro e w8 ⟨v8, c8, rfl, a8, s8, o8⟩
          obtain ⟨g8, off8, cap8, hv8, q8⟩ := a8.sl.ex (by rw [TT.out.2.2.2.2.2.2.2.1]; exact hn0)
          rw [TT.out.2.2.2.2.2.2.2.1] at hv8
          subst hv8
          have y8 := num_at a8.sl (TT.out.2.2.1.head TT.out.2.2.2.2.2.2.1)
          simp only [Nat.add_zero] at y8
          have B8 := base_any (TT.out.1.kn s8) TT.out.2.2.2.2.2.2.2.2.1
          have D8 := done_no (TT.out.1.kn s8) TT.out.2.2.2.2.2.2.2.2.1 TT.out.2.2.2.2.2.2.1
          have X8 := DD w8
          have SS := Lib.hid (And.intro s8 (And.intro o8 a8))
          clear P8 a8 s8 o8 q8
          go_wp2_with fail
          with_reducible refine B8.mono ?_
          rintro e w9 ⟨rfl, rfl⟩
          go_wp2_with fail
          with_reducible refine X8.mono ?_
          rintro e w9 ⟨rfl, rfl⟩
          go_wp2_with fail
          with_reducible refine D8.mono ?_
          rintro e w9 ⟨rfl, rfl⟩
          go_wp2_with fail
          with_reducible refine D8.mono ?_
          rintro e w9 ⟨rfl, rfl⟩
          clear B8 D8 X8 y8
          go_wp2_with fail
          go_loopw [17] (fun k wr => ∃ (kk m : Nat), kk ≤ n ∧ k = .int .i64 kk ∧ wr = w8.drewN m) (fun k _ => n - (intOf k).toNat)
          case atStart => exact ⟨0, 0, Nat.zero_le _, rfl, rfl⟩
          case round =>
            obtain ⟨kk, m, hkk, rfl, hwr⟩ := hrel
            by_cases hlk : kk < n
            · obtain ⟨z, hzz⟩ : ∃ z, S.l[kk]? = some z := ⟨S.l[kk]'(by rw [TT.out.2.2.2.2.2.2.2.1]; exact hlk), by rw [List.getElem?_eq_getElem]⟩
              have iw : IsSt c8 1 2 wr w1.heap.size S := by rw [hwr]; exact (TT.out.1.kn SS.out.1).kn (Step.rf.drewN m)
              have aw : Sl (TInt .i64) c8 4 0 wr (.slice (some ⟨g8, off8, none⟩) n cap8) S.l := by
                rw [hwr]; exact SS.out.2.2.sl.kn (Step.rf.drewN m)
              have y1 := num_at aw hzz
              have hzl : ¬ z ≤ S.low := by have := (TT.out.2.2.1.good.all z (List.mem_of_getElem? hzz)).1; omega
              have hzd : decide (z ≤ S.low) = false := by simp; omega
              have B9 := base_any (iw.kn Step.rf.drew) TT.out.2.2.2.2.2.2.2.2.1
              have HW := Lib.hid hwr
              rcases kk with _ | i
              · simp only [Nat.add_zero] at y1
                have K1 : (fun W => W.cell? ⟨g8, off8, none⟩ = some (.int .i64 z)) wr.drew := y1
                clear hwr iw aw hzz
                go_wp2_with fail
                refine region_planM (fun W => W.cell? ⟨g8, off8, none⟩ = some (.int .i64 z)) (fun _ => true) (by kernel_rfl) ?_
                refine wpAnyM.takeT (i := 0) (v := _) (some 145) rfl rfl (by kernel_rfl) (by kernel_rfl) (by kernel_rfl) (by kernel_rfl) (by kernel_rfl) (fun _ _ _ h => h) (Or.inl ⟨by rfl, fun W hW => by first | (obtain q0 := hW; go_simp <;> rfl) | (obtain q0 := hW; go_simp; done)⟩) K1 ?_
                (try simp only [Act.put, List.setIfInBounds_toArray, List.set_cons_zero, List.set_cons_succ])
                refine wpAnyM.takeT (i := 1) (v := _) (some 146) rfl rfl (by kernel_rfl) (by kernel_rfl) (by kernel_rfl) (by kernel_rfl) (by kernel_rfl) (fun _ _ _ h => h) (Or.inl ⟨by rfl, fun W hW => by first | (obtain q0 := hW; go_simp <;> rfl) | (obtain q0 := hW; go_simp; done)⟩) K1 ?_
                (try simp only [Act.put, List.setIfInBounds_toArray, List.set_cons_zero, List.set_cons_succ])
                refine wpAnyM.takeT (i := 2) (v := _) (some 147) rfl rfl (by kernel_rfl) (by kernel_rfl) (by kernel_rfl) (by kernel_rfl) (by kernel_rfl) (fun _ _ _ h => h) (Or.inl ⟨by rfl, fun W hW => by first | (obtain q0 := hW; go_simp <;> rfl) | (obtain q0 := hW; go_simp; done)⟩) K1 ?_
                (try simp only [Act.put, List.setIfInBounds_toArray, List.set_cons_zero, List.set_cons_succ])
                refine wpAnyM.takeT (i := 3) (v := _) (some 148) rfl rfl (by kernel_rfl) (by kernel_rfl) (by kernel_rfl) (by kernel_rfl) (by kernel_rfl) (fun _ _ _ h => h) (Or.inl ⟨by rfl, fun W hW => by first | (obtain q0 := hW; go_simp <;> rfl) | (obtain q0 := hW; go_simp; done)⟩) K1 ?_
                (try simp only [Act.put, List.setIfInBounds_toArray, List.set_cons_zero, List.set_cons_succ])
                refine wpAnyM.takeT (i := 4) (v := _) (some 149) rfl rfl (by kernel_rfl) (by kernel_rfl) (by kernel_rfl) (by kernel_rfl) (by kernel_rfl) (fun _ _ _ h => h) (Or.inl ⟨by rfl, fun W hW => by first | (obtain q0 := hW; go_simp <;> rfl) | (obtain q0 := hW; go_simp; done)⟩) K1 ?_
                (try simp only [Act.put, List.setIfInBounds_toArray, List.set_cons_zero, List.set_cons_succ])
                refine wpAnyM.one (i := 5) (by kernel_rfl) rfl (fun KQ hK => ?_)
                go_simp
                refine B9.mono ?_
                rintro e w10 ⟨rfl, rfl⟩
                refine hK.out _ _ (fun _ => K1) ?_
                clear hK KQ
                (try simp only [Act.put, List.setIfInBounds_toArray, List.set_cons_zero, List.set_cons_succ])
                refine wpAnyM.takeT (i := 6) (v := .bool false) (some 151) rfl rfl (by kernel_rfl) (by kernel_rfl) (by kernel_rfl) (by kernel_rfl) (by kernel_rfl) (fun _ _ _ h => h) (Or.inl ⟨by rfl, fun W hW => by first | (obtain q0 := hW; go_simp <;> rfl) | (obtain q0 := hW; go_simp; done)⟩) K1 ?_
                (try simp only [Act.put, List.setIfInBounds_toArray, List.set_cons_zero, List.set_cons_succ])
                refine wpAnyM.takeT (i := 7) (v := .bool false) (some 152) rfl rfl (by kernel_rfl) (by kernel_rfl) (by kernel_rfl) (by kernel_rfl) (by kernel_rfl) (fun _ _ _ h => h) (Or.inl ⟨by rfl, fun W hW => by first | (obtain q0 := hW; go_simp <;> rfl) | (obtain q0 := hW; go_simp; done)⟩) K1 ?_
                (try simp only [Act.put, List.setIfInBounds_toArray, List.set_cons_zero, List.set_cons_succ])
                refine wpAnyM.takeT (i := 8) (v := _) (some 153) rfl rfl (by kernel_rfl) (by kernel_rfl) (by kernel_rfl) (by kernel_rfl) (by kernel_rfl) (fun _ _ _ h => h) (Or.inl ⟨by rfl, fun W hW => by first | (obtain q0 := hW; go_simp <;> rfl) | (obtain q0 := hW; go_simp; done)⟩) K1 ?_
                (try simp only [Act.put, List.setIfInBounds_toArray, List.set_cons_zero, List.set_cons_succ])
                refine wpAnyM.takeT (i := 9) (v := .bool false) (some 154) rfl rfl (by kernel_rfl) (by kernel_rfl) (by kernel_rfl) (by kernel_rfl) (by kernel_rfl) (fun _ _ _ h => h) (Or.inl ⟨by rfl, fun W hW => by first | (obtain q0 := hW; go_simp <;> rfl) | (obtain q0 := hW; go_simp; done)⟩) K1 ?_
                (try simp only [Act.put, List.setIfInBounds_toArray, List.set_cons_zero, List.set_cons_succ])
                refine wpAnyM.takeT (i := 10) (v := .bool false) (some 155) rfl rfl (by kernel_rfl) (by kernel_rfl) (by kernel_rfl) (by kernel_rfl) (by kernel_rfl) (fun _ _ _ h => h) (Or.inl ⟨by rfl, fun W hW => by first | (obtain q0 := hW; go_simp <;> rfl) | (obtain q0 := hW; go_simp; done)⟩) K1 ?_
                (try simp only [Act.put, List.setIfInBounds_toArray, List.set_cons_zero, List.set_cons_succ])
                refine wpAnyM.takeT (i := 11) (v := _) (some 156) rfl rfl (by kernel_rfl) (by kernel_rfl) (by kernel_rfl) (by kernel_rfl) (by kernel_rfl) (fun _ _ _ h => h) (Or.inr ⟨by rfl, rfl⟩) K1 ?_
                (try simp only [Act.put, List.setIfInBounds_toArray, List.set_cons_zero, List.set_cons_succ])
                refine wpAnyM.takeT (i := 12) (v := _) (some 157) rfl rfl (by kernel_rfl) (by kernel_rfl) (by kernel_rfl) (by kernel_rfl) (by kernel_rfl) (fun _ _ _ h => h) (Or.inr ⟨by rfl, rfl⟩) K1 ?_
                (try simp only [Act.put, List.setIfInBounds_toArray, List.set_cons_zero, List.set_cons_succ])
                refine wpAnyM.takeT (i := 13) (v := _) (some 158) rfl rfl (by kernel_rfl) (by kernel_rfl) (by kernel_rfl) (by kernel_rfl) (by kernel_rfl) (fun _ _ _ h => h) (Or.inr ⟨by rfl, rfl⟩) K1 ?_
                (try simp only [Act.put, List.setIfInBounds_toArray, List.set_cons_zero, List.set_cons_succ])
                refine wpAnyM.takeT (i := 14) (v := _) (some 159) rfl rfl (by kernel_rfl) (by kernel_rfl) (by kernel_rfl) (by kernel_rfl) (by kernel_rfl) (fun _ _ _ h => h) (Or.inr ⟨by rfl, rfl⟩) K1 ?_
                (try simp only [Act.put, List.setIfInBounds_toArray, List.set_cons_zero, List.set_cons_succ])
                refine wpAnyM.takeT (i := 15) (v := _) (some 160) rfl rfl (by kernel_rfl) (by kernel_rfl) (by kernel_rfl) (by kernel_rfl) (by kernel_rfl) (fun _ _ _ h => h) (Or.inr ⟨by rfl, rfl⟩) K1 ?_
                (try simp only [Act.put, List.setIfInBounds_toArray, List.set_cons_zero, List.set_cons_succ])
                refine wpAnyM.takeT (i := 16) (v := _) (some 161) rfl rfl (by kernel_rfl) (by kernel_rfl) (by kernel_rfl) (by kernel_rfl) (by kernel_rfl) (fun _ _ _ h => h) (Or.inr ⟨by rfl, rfl⟩) K1 ?_
                (try simp only [Act.put, List.setIfInBounds_toArray, List.set_cons_zero, List.set_cons_succ])
                refine wpAnyM.takeT (i := 17) (v := _) (some 162) rfl rfl (by kernel_rfl) (by kernel_rfl) (by kernel_rfl) (by kernel_rfl) (by kernel_rfl) (fun _ _ _ h => h) (Or.inr ⟨by rfl, rfl⟩) K1 ?_
                (try simp only [Act.put, List.setIfInBounds_toArray, List.set_cons_zero, List.set_cons_succ])
                refine wpAnyM.takeT (i := 18) (v := _) (some 163) rfl rfl (by kernel_rfl) (by kernel_rfl) (by kernel_rfl) (by kernel_rfl) (by kernel_rfl) (fun _ _ _ h => h) (Or.inr ⟨by rfl, rfl⟩) K1 ?_
                (try simp only [Act.put, List.setIfInBounds_toArray, List.set_cons_zero, List.set_cons_succ])
                refine wpAnyM.takeT (i := 19) (v := _) (some 164) rfl rfl (by kernel_rfl) (by kernel_rfl) (by kernel_rfl) (by kernel_rfl) (by kernel_rfl) (fun _ _ _ h => h) (Or.inr ⟨by rfl, rfl⟩) K1 ?_
                (try simp only [Act.put, List.setIfInBounds_toArray, List.set_cons_zero, List.set_cons_succ])
                refine wpAnyM.takeT (i := 20) (v := _) (some 165) rfl rfl (by kernel_rfl) (by kernel_rfl) (by kernel_rfl) (by kernel_rfl) (by kernel_rfl) (fun _ _ _ h => h) (Or.inr ⟨by rfl, rfl⟩) K1 ?_
                (try simp only [Act.put, List.setIfInBounds_toArray, List.set_cons_zero, List.set_cons_succ])
                refine wpAnyM.takeT (i := 21) (v := _) (some 166) rfl rfl (by kernel_rfl) (by kernel_rfl) (by kernel_rfl) (by kernel_rfl) (by kernel_rfl) (fun _ _ _ h => h) (Or.inl ⟨by rfl, fun W hW => by first | (obtain q0 := hW; go_simp <;> rfl) | (obtain q0 := hW; go_simp; done)⟩) K1 ?_
                (try simp only [Act.put, List.setIfInBounds_toArray, List.set_cons_zero, List.set_cons_succ])
                refine wpAnyM.takeT (i := 22) (v := _) (some 167) rfl rfl (by kernel_rfl) (by kernel_rfl) (by kernel_rfl) (by kernel_rfl) (by kernel_rfl) (fun _ _ _ h => h) (Or.inl ⟨by rfl, fun W hW => by first | (obtain q0 := hW; go_simp <;> rfl) | (obtain q0 := hW; go_simp; done)⟩) K1 ?_
                (try simp only [Act.put, List.setIfInBounds_toArray, List.set_cons_zero, List.set_cons_succ])
                refine wpAnyM.done (by kernel_rfl) ?_ _
                go_wp2_with fail
                go_roundw
                case rel => exact ⟨1, m + 1, by omega, by first | rfl | go_num, by rw [HW.out]; exact World.drewN_drewN _ _ _⟩
                case measure => simp [intOf]; omega
              · obtain ⟨z', hzz'⟩ : ∃ z', S.l[i]? = some z' := ⟨S.l[i]'(by rw [TT.out.2.2.2.2.2.2.2.1]; omega), by rw [List.getElem?_eq_getElem]⟩
                have y2 := num_at aw hzz'
                have hdz : z < z' := by
                  have hd := TT.out.2.2.1.good.desc
                  rw [List.pairwise_iff_getElem] at hd
                  have e1 := List.getElem?_eq_some_iff.1 hzz
                  have e2 := List.getElem?_eq_some_iff.1 hzz'
                  obtain ⟨b1, e1⟩ := e1
                  obtain ⟨b2, e2⟩ := e2
                  have := hd i (i + 1) b2 b1 (by omega)
                  rw [e1, e2] at this
                  exact this
                have hz2 : ¬ z' ≤ z := by omega
                have hz2d : decide (z' ≤ z) = false := by simp; omega
                have hi1 : (i : Int) + 1 < (n : Int) := by omega
                have hi2 : (i : Int) < (n : Int) := by omega
                have hi3 : (0 : Int) < (i : Int) + 1 := by omega
                have hi4 : (0 : Int) ≤ (i : Int) + 1 := by omega
                have hi5 : (0 : Int) ≤ (i : Int) := by omega
                have hwi : IntKind.i64.wrap (i : Int) = (i : Int) := IntWalk.i64_in _ (by omega)
                have hwi2 : IntKind.i64.wrap ((i : Int) + 1 - 1) = (i : Int) := by rw [Int.add_sub_cancel]; exact hwi
                have K1 : (fun W => W.cell? ⟨g8, off8 + (i + 1), none⟩ = some (.int .i64 z) ∧ W.cell? ⟨g8, off8 + i, none⟩ = some (.int .i64 z')) wr.drew := ⟨y1, y2⟩
                clear hwr iw aw hzz hzz'
                go_wp2_with fail
                refine region_planM (fun W => W.cell? ⟨g8, off8 + (i + 1), none⟩ = some (.int .i64 z) ∧ W.cell? ⟨g8, off8 + i, none⟩ = some (.int .i64 z')) (fun _ => true) (by kernel_rfl) ?_
                refine wpAnyM.takeT (i := 0) (v := _) (some 145) rfl rfl (by kernel_rfl) (by kernel_rfl) (by kernel_rfl) (by kernel_rfl) (by kernel_rfl) (fun _ _ _ h => h) (Or.inl ⟨by rfl, fun W hW => by first | (obtain ⟨q0, q1⟩ := hW; go_simp <;> rfl) | (obtain ⟨q0, q1⟩ := hW; go_simp; done)⟩) K1 ?_
                (try simp only [Act.put, List.setIfInBounds_toArray, List.set_cons_zero, List.set_cons_succ])
                refine wpAnyM.takeT (i := 1) (v := _) (some 146) rfl rfl (by kernel_rfl) (by kernel_rfl) (by kernel_rfl) (by kernel_rfl) (by kernel_rfl) (fun _ _ _ h => h) (Or.inl ⟨by rfl, fun W hW => by first | (obtain ⟨q0, q1⟩ := hW; go_simp <;> rfl) | (obtain ⟨q0, q1⟩ := hW; go_simp; done)⟩) K1 ?_
                (try simp only [Act.put, List.setIfInBounds_toArray, List.set_cons_zero, List.set_cons_succ])
                refine wpAnyM.takeT (i := 2) (v := _) (some 147) rfl rfl (by kernel_rfl) (by kernel_rfl) (by kernel_rfl) (by kernel_rfl) (by kernel_rfl) (fun _ _ _ h => h) (Or.inl ⟨by rfl, fun W hW => by first | (obtain ⟨q0, q1⟩ := hW; go_simp <;> rfl) | (obtain ⟨q0, q1⟩ := hW; go_simp; done)⟩) K1 ?_
                (try simp only [Act.put, List.setIfInBounds_toArray, List.set_cons_zero, List.set_cons_succ])
                refine wpAnyM.takeT (i := 3) (v := _) (some 148) rfl rfl (by kernel_rfl) (by kernel_rfl) (by kernel_rfl) (by kernel_rfl) (by kernel_rfl) (fun _ _ _ h => h) (Or.inl ⟨by rfl, fun W hW => by first | (obtain ⟨q0, q1⟩ := hW; go_simp <;> rfl) | (obtain ⟨q0, q1⟩ := hW; go_simp; done)⟩) K1 ?_
                (try simp only [Act.put, List.setIfInBounds_toArray, List.set_cons_zero, List.set_cons_succ])
                refine wpAnyM.takeT (i := 4) (v := _) (some 149) rfl rfl (by kernel_rfl) (by kernel_rfl) (by kernel_rfl) (by kernel_rfl) (by kernel_rfl) (fun _ _ _ h => h) (Or.inl ⟨by rfl, fun W hW => by first | (obtain ⟨q0, q1⟩ := hW; go_simp <;> rfl) | (obtain ⟨q0, q1⟩ := hW; go_simp; done)⟩) K1 ?_
                (try simp only [Act.put, List.setIfInBounds_toArray, List.set_cons_zero, List.set_cons_succ])
                refine wpAnyM.one (i := 5) (by kernel_rfl) rfl (fun KQ hK => ?_)
                go_simp
                refine B9.mono ?_
                rintro e w10 ⟨rfl, rfl⟩
                refine hK.out _ _ (fun _ => K1) ?_
                clear hK KQ
                (try simp only [Act.put, List.setIfInBounds_toArray, List.set_cons_zero, List.set_cons_succ])
                refine wpAnyM.takeT (i := 6) (v := .bool false) (some 151) rfl rfl (by kernel_rfl) (by kernel_rfl) (by kernel_rfl) (by kernel_rfl) (by kernel_rfl) (fun _ _ _ h => h) (Or.inl ⟨by rfl, fun W hW => by first | (obtain ⟨q0, q1⟩ := hW; go_simp <;> rfl) | (obtain ⟨q0, q1⟩ := hW; go_simp; done)⟩) K1 ?_
                (try simp only [Act.put, List.setIfInBounds_toArray, List.set_cons_zero, List.set_cons_succ])
                refine wpAnyM.takeT (i := 7) (v := .bool false) (some 152) rfl rfl (by kernel_rfl) (by kernel_rfl) (by kernel_rfl) (by kernel_rfl) (by kernel_rfl) (fun _ _ _ h => h) (Or.inl ⟨by rfl, fun W hW => by first | (obtain ⟨q0, q1⟩ := hW; go_simp <;> rfl) | (obtain ⟨q0, q1⟩ := hW; go_simp; done)⟩) K1 ?_
                (try simp only [Act.put, List.setIfInBounds_toArray, List.set_cons_zero, List.set_cons_succ])
                refine wpAnyM.takeT (i := 8) (v := _) (some 153) rfl rfl (by kernel_rfl) (by kernel_rfl) (by kernel_rfl) (by kernel_rfl) (by kernel_rfl) (fun _ _ _ h => h) (Or.inl ⟨by rfl, fun W hW => by first | (obtain ⟨q0, q1⟩ := hW; go_simp <;> rfl) | (obtain ⟨q0, q1⟩ := hW; go_simp; done)⟩) K1 ?_
                (try simp only [Act.put, List.setIfInBounds_toArray, List.set_cons_zero, List.set_cons_succ])
                refine wpAnyM.takeT (i := 9) (v := .bool true) (some 154) rfl rfl (by kernel_rfl) (by kernel_rfl) (by kernel_rfl) (by kernel_rfl) (by kernel_rfl) (fun _ _ _ h => h) (Or.inl ⟨by rfl, fun W hW => by first | (obtain ⟨q0, q1⟩ := hW; go_simp <;> rfl) | (obtain ⟨q0, q1⟩ := hW; go_simp; done)⟩) K1 ?_
                (try simp only [Act.put, List.setIfInBounds_toArray, List.set_cons_zero, List.set_cons_succ])
                refine wpAnyM.takeT (i := 10) (v := .bool true) (some 155) rfl rfl (by kernel_rfl) (by kernel_rfl) (by kernel_rfl) (by kernel_rfl) (by kernel_rfl) (fun _ _ _ h => h) (Or.inl ⟨by rfl, fun W hW => by first | (obtain ⟨q0, q1⟩ := hW; go_simp <;> rfl) | (obtain ⟨q0, q1⟩ := hW; go_simp; done)⟩) K1 ?_
                (try simp only [Act.put, List.setIfInBounds_toArray, List.set_cons_zero, List.set_cons_succ])
                refine wpAnyM.takeT (i := 11) (v := _) (some 156) rfl rfl (by kernel_rfl) (by kernel_rfl) (by kernel_rfl) (by kernel_rfl) (by kernel_rfl) (fun _ _ _ h => h) (Or.inl ⟨by rfl, fun W hW => by first | (obtain ⟨q0, q1⟩ := hW; go_simp <;> rfl) | (obtain ⟨q0, q1⟩ := hW; go_simp; done)⟩) K1 ?_
                (try simp only [Act.put, List.setIfInBounds_toArray, List.set_cons_zero, List.set_cons_succ])
                refine wpAnyM.takeT (i := 12) (v := _) (some 157) rfl rfl (by kernel_rfl) (by kernel_rfl) (by kernel_rfl) (by kernel_rfl) (by kernel_rfl) (fun _ _ _ h => h) (Or.inl ⟨by rfl, fun W hW => by first | (obtain ⟨q0, q1⟩ := hW; go_simp <;> rfl) | (obtain ⟨q0, q1⟩ := hW; go_simp; done)⟩) K1 ?_
                (try simp only [Act.put, List.setIfInBounds_toArray, List.set_cons_zero, List.set_cons_succ])
                refine wpAnyM.takeT (i := 13) (v := _) (some 158) rfl rfl (by kernel_rfl) (by kernel_rfl) (by kernel_rfl) (by kernel_rfl) (by kernel_rfl) (fun _ _ _ h => h) (Or.inl ⟨by rfl, fun W hW => by first | (obtain ⟨q0, q1⟩ := hW; go_simp <;> rfl) | (obtain ⟨q0, q1⟩ := hW; go_simp; done)⟩) K1 ?_
                (try simp only [Act.put, List.setIfInBounds_toArray, List.set_cons_zero, List.set_cons_succ])
                refine wpAnyM.takeT (i := 14) (v := _) (some 159) rfl rfl (by kernel_rfl) (by kernel_rfl) (by kernel_rfl) (by kernel_rfl) (by kernel_rfl) (fun _ _ _ h => h) (Or.inl ⟨by rfl, fun W hW => by first | (obtain ⟨q0, q1⟩ := hW; go_simp <;> rfl) | (obtain ⟨q0, q1⟩ := hW; go_simp; done)⟩) K1 ?_
                (try simp only [Act.put, List.setIfInBounds_toArray, List.set_cons_zero, List.set_cons_succ])
                refine wpAnyM.takeT (i := 15) (v := _) (some 160) rfl rfl (by kernel_rfl) (by kernel_rfl) (by kernel_rfl) (by kernel_rfl) (by kernel_rfl) (fun _ _ _ h => h) (Or.inl ⟨by rfl, fun W hW => by first | (obtain ⟨q0, q1⟩ := hW; go_simp <;> rfl) | (obtain ⟨q0, q1⟩ := hW; go_simp; done)⟩) K1 ?_
                (try simp only [Act.put, List.setIfInBounds_toArray, List.set_cons_zero, List.set_cons_succ])
                refine wpAnyM.takeT (i := 16) (v := _) (some 161) rfl rfl (by kernel_rfl) (by kernel_rfl) (by kernel_rfl) (by kernel_rfl) (by kernel_rfl) (fun _ _ _ h => h) (Or.inl ⟨by rfl, fun W hW => by first | (obtain ⟨q0, q1⟩ := hW; go_simp <;> rfl) | (obtain ⟨q0, q1⟩ := hW; go_simp; done)⟩) K1 ?_
                (try simp only [Act.put, List.setIfInBounds_toArray, List.set_cons_zero, List.set_cons_succ])
                refine wpAnyM.takeT (i := 17) (v := .int .i64 i) (some 162) rfl rfl (by kernel_rfl) (by kernel_rfl) (by kernel_rfl) (by kernel_rfl) (by kernel_rfl) (fun _ _ _ h => h) (Or.inl ⟨by rfl, fun W hW => by first | (obtain ⟨q0, q1⟩ := hW; go_simp <;> rfl) | (obtain ⟨q0, q1⟩ := hW; go_simp; done)⟩) K1 ?_
                (try simp only [Act.put, List.setIfInBounds_toArray, List.set_cons_zero, List.set_cons_succ])
                refine wpAnyM.takeT (i := 18) (v := _) (some 163) rfl rfl (by kernel_rfl) (by kernel_rfl) (by kernel_rfl) (by kernel_rfl) (by kernel_rfl) (fun _ _ _ h => h) (Or.inl ⟨by rfl, fun W hW => by first | (obtain ⟨q0, q1⟩ := hW; go_simp <;> rfl) | (obtain ⟨q0, q1⟩ := hW; go_simp; done)⟩) K1 ?_
                (try simp only [Act.put, List.setIfInBounds_toArray, List.set_cons_zero, List.set_cons_succ])
                refine wpAnyM.takeT (i := 19) (v := _) (some 164) rfl rfl (by kernel_rfl) (by kernel_rfl) (by kernel_rfl) (by kernel_rfl) (by kernel_rfl) (fun _ _ _ h => h) (Or.inl ⟨by rfl, fun W hW => by first | (obtain ⟨q0, q1⟩ := hW; go_simp <;> rfl) | (obtain ⟨q0, q1⟩ := hW; go_simp; done)⟩) K1 ?_
                (try simp only [Act.put, List.setIfInBounds_toArray, List.set_cons_zero, List.set_cons_succ])
                refine wpAnyM.takeT (i := 20) (v := .bool false) (some 165) rfl rfl (by kernel_rfl) (by kernel_rfl) (by kernel_rfl) (by kernel_rfl) (by kernel_rfl) (fun _ _ _ h => h) (Or.inl ⟨by rfl, fun W hW => by first | (obtain ⟨q0, q1⟩ := hW; go_simp <;> rfl) | (obtain ⟨q0, q1⟩ := hW; go_simp; done)⟩) K1 ?_
                (try simp only [Act.put, List.setIfInBounds_toArray, List.set_cons_zero, List.set_cons_succ])
                refine wpAnyM.takeT (i := 21) (v := _) (some 166) rfl rfl (by kernel_rfl) (by kernel_rfl) (by kernel_rfl) (by kernel_rfl) (by kernel_rfl) (fun _ _ _ h => h) (Or.inl ⟨by rfl, fun W hW => by first | (obtain ⟨q0, q1⟩ := hW; go_simp <;> rfl) | (obtain ⟨q0, q1⟩ := hW; go_simp; done)⟩) K1 ?_
                (try simp only [Act.put, List.setIfInBounds_toArray, List.set_cons_zero, List.set_cons_succ])
                refine wpAnyM.takeT (i := 22) (v := _) (some 167) rfl rfl (by kernel_rfl) (by kernel_rfl) (by kernel_rfl) (by kernel_rfl) (by kernel_rfl) (fun _ _ _ h => h) (Or.inl ⟨by rfl, fun W hW => by first | (obtain ⟨q0, q1⟩ := hW; go_simp <;> rfl) | (obtain ⟨q0, q1⟩ := hW; go_simp; done)⟩) K1 ?_
                (try simp only [Act.put, List.setIfInBounds_toArray, List.set_cons_zero, List.set_cons_succ])
                refine wpAnyM.done (by kernel_rfl) ?_ _
                go_wp2_with fail
                go_roundw
                case rel => exact ⟨i + 1 + 1, m + 1, by omega, by go_num, by rw [HW.out]; exact World.drewN_drewN _ _ _⟩
                case measure => simp [intOf]; omega
            · have HW := Lib.hid hwr
              clear hwr
              go_wp2_with fail
              go_roundw
              case rel =>
                obtain ⟨s8, o8, a8⟩ := SS.out
                obtain ⟨iT, oT, dT, owT, tT, nT, hl, hn, hrS, nS2⟩ := TT.out
                exact ⟨j + 1, c8, by go_num, ⟨by omega, by rw [HW.out]; exact (tT.trans s8.ofNo).drewN m, by rw [HW.out]; exact o8.drewN m, S, AS, by rw [HW.out]; exact (iT.kn s8).kn (Step.rf.drewN m), dT, by rw [HW.out]; exact (owT.kn s8).kn (Step.rf.drewN m), by omega, nS2⟩⟩
              case measure => simp [intOf]; omega
      -- END ROUND
    · have T7 := I.step
      have hj1 : ¬ (j : Int) < (l.length : Int) := by omega
      clear I
      go_wp2_with fail
      go_ret
      exact ⟨rfl, bel T7 (by simp)⟩
end Go.Proofs.Ytcagfdmafelbkab
