/- ServerTurns, part 28: lemmas, each with its own conditions. -/
import Derived.Test.YtgcobbapaaihiaaGreatSt07
import Derived.Test.YtgcobbapaaihiaaGreatSt13
import Derived.Test.YtgcobbapaaihiaaGreatSt17
import Derived.Test.YtgcobbapaaihiaaGreatSt19
import Derived.Test.YtgcobbapaaihiaaGreatSt23
import Derived.Test.YtgcobbapaaihiaaGreatSt27
set_option linter.unusedVariables false
set_option linter.unusedSimpArgs false
namespace Go.Proofs.YtgcobbapaaihiaaGreat
open Go.RowKit

/-- A server as it came in. -/
structure Srv.Raw (s : Srv) (c : Col) (k : Nat) (w : World) (vc vo vm : Value) : Prop where
  chain : Sl TBlR c k k w vc s.chain
  other : Sl TBlR c k k w vo s.other
  moods : Sl (TInt .i64) c k k w vm s.moods
  delay : IntKind.i64.has s.delay
  slow : IntKind.i64.has s.slow

def shortS (s : Srv) : Prop := (s.chain.length ≤ 12 ∧ ∀ b ∈ s.chain, shortB b) ∧ (s.other.length ≤ 12 ∧ ∀ b ∈ s.other, shortB b) ∧ s.moods.length ≤ 70

theorem Srv.Raw.at {s : Srv} {c : Col} {k : Nat} {w : World} {vc vo vm : Value} (h : s.Raw c k w vc vo vm) (hs : shortS s) : s.At c k w vc vo vm :=
  ⟨raw_sl h.chain hs.1.2, raw_sl h.other hs.2.1.2, h.moods, by have := hs.1.1; omega, by have := hs.2.1.1; omega, by have := hs.2.2; omega, h.delay, h.slow⟩

section
variable {c : Col} {w : World}

set_option maxRecDepth 100000 in
set_option maxHeartbeats 1600000 in
theorem long29_any (hok : Ok c w) {s : Srv} {k : Nat} {vc vo vm : Value} (hs : s.Raw c k w vc vo vm) :
    Calls Tryz.prog 6 #[.agg #[vc, vo, vm, .int .i64 s.delay, .int .i64 s.slow]] w fun r w' => isBf (shortS s) r ∧ ∃ c', Step No c w c' w' ∧ Ok c' w' := by
  obtain ⟨vca, vcc, rfl, _⟩ := hs.chain.form
  obtain ⟨voa, voc, rfl, _⟩ := hs.other.form
  obtain ⟨vma, vmc, rfl, _⟩ := hs.moods.form
  have a0 := At.new0 hok [.slice vca s.chain.length vcc, .slice voa s.other.length voc, .slice vma s.moods.length vmc, .int .i64 s.delay, .int .i64 s.slow] 25
  have s0 : Step No c w c (w.alloc (.cells #[.slice vca s.chain.length vcc, .slice voa s.other.length voc, .slice vma s.moods.length vmc, .int .i64 s.delay, .int .i64 s.slow] 25)) := Step.refl.alloc _
  have o0 := hok.alloc (.cells #[.slice vca s.chain.length vcc, .slice voa s.other.length voc, .slice vma s.moods.length vmc, .int .i64 s.delay, .int .i64 s.slow] 25)
  have LB := longBlocks_any o0 (hs.chain.kn s0) 12
  have ho := hs.other.kn s0
  obtain ⟨bx, hbx⟩ : ∃ b, w.heap.size = b := ⟨_, rfl⟩
  rw [hbx] at a0
  obtain ⟨W0, hW0⟩ : ∃ W, w.alloc (.cells #[.slice vca s.chain.length vcc, .slice voa s.other.length voc, .slice vma s.moods.length vmc, .int .i64 s.delay, .int .i64 s.slow] 25) = W := ⟨_, rfl⟩
  have hW0' : w.alloc (.cells ([Value.slice vca s.chain.length vcc, .slice voa s.other.length voc, .slice vma s.moods.length vmc, .int .i64 s.delay, .int .i64 s.slow] : List Value).toArray 25) = W0 := hW0
  rw [hW0] at LB s0 o0 ho
  rw [hW0'] at a0
  have y0 := a0.get (i := 0) rfl
  have X := Lib.hid (And.intro s0 (And.intro ho a0))
  obtain ⟨n3, h3⟩ : ∃ n, s.moods.length = n := ⟨_, rfl⟩
  have H3 := Lib.hid h3
  clear s0 o0 hs hok hW0' ho a0 h3
  go_enter Tryz.func6, Tryz.ntmps6
  go_wp2_with fail
  (try rw [hW0])
  (try rw [hbx])
  with_reducible refine LB.mono ?_
  rintro e w1 ⟨⟨t, rfl, ht⟩, c1, s1, o1⟩
  obtain ⟨s0, ho, a0⟩ := X.out
  have a1 := a0.kn s1
  have y1 := a1.get (i := 1) rfl
  cases t with
  | true =>
    have X2 := Lib.hid (And.intro (s0.trans s1) o1)
    clear LB s0 s1 o1 ho a0 a1
    go_wp2_with fail
    go_ret
    exact ⟨isBf.yes _, c1, X2.out⟩
  | false =>
    have HT := Lib.hid (ht rfl)
    clear ht
    have LB2 := longBlocks_any o1 (ho.kn s1) 12
    have X2 := Lib.hid (And.intro (s0.trans s1) a1)
    clear LB s0 s1 o1 ho a0 a1
    go_wp2_with fail
    with_reducible refine LB2.mono ?_
    rintro e w2 ⟨⟨t, rfl, ht⟩, c2, s2, o2⟩
    have a2 := X2.out.2.kn s2
    have y2 := a2.get (i := 2) rfl
    have X3 := Lib.hid (And.intro (X2.out.1.trans s2) o2)
    clear LB2 s2 o2 a2 y0 y1
    cases t with
    | true =>
      go_wp2_with fail
      go_ret
      exact ⟨isBf.yes _, c2, X3.out⟩
    | false =>
      have HT2 := Lib.hid (ht rfl)
      clear ht
      rw [H3.out] at y2
      go_wp2_with fail
      go_ret
      have h3 := H3.out
      refine ⟨⟨decide ((70 : Int) < (n3 : Int)), rfl, fun h => ?_⟩, c2, X3.out⟩
      have h7 := of_decide_eq_false h
      exact ⟨⟨by have := HT.out.1; omega, HT.out.2⟩, ⟨by have := HT2.out.1; omega, HT2.out.2⟩, by omega⟩
end
end Go.Proofs.YtgcobbapaaihiaaGreat

set_option linter.unusedVariables false
set_option linter.unusedSimpArgs false
namespace Go.Proofs.YtgcobbapaaihiaaGreat
open Go.RowKit

section
variable {c : Col} {w : World}

set_option maxRecDepth 100000 in
set_option maxHeartbeats 1600000 in
theorem cpblos_any (hok : Ok c w) {kx : Nat} {v : Value} {l : List Blo} (hl : Sl TBlo c kx kx w v l) (hn : l.length ≤ 1000) :
    Calls Tryz.prog 31 #[v] w fun e w' => ∃ v' c', e = .returned v' ∧ Sl TBlo c' 0 0 w' v' l ∧ Step No c w c' w' ∧ Ok c' w' := by
  obtain ⟨q, hq, hqc⟩ := hok.spare kx
  have hq0 : q ≠ 0 := by omega
  have hqz : 0 ≠ q := by omega
  have hqk : ¬ One q kx := fun e => absurd e (by show ¬ kx = q; omega)
  have hqn : ¬ One q 0 := fun e => absurd e (by show ¬ 0 = q; omega)
  obtain ⟨va, vn, rfl, _⟩ := hl.form
  have X := Lib.hid (And.intro hok (And.intro hl hqc))
  obtain ⟨n, hn2⟩ : ∃ n, l.length = n := ⟨_, rfl⟩
  rw [hn2] at hn X ⊢
  have HN := Lib.hid hn2
  clear hok hl hn2 hqc
  go_enter Tryz.func31, Tryz.ntmps31
  go_wp2_with fail
  go_loopw [3, 4] (fun u i wr => ∃ (j : Nat) (cr : Col), j ≤ n ∧ i = .int .i64 j ∧ Own TBlo 59 cr q 0 wr u (l.take j) ∧ Step (One q) c w cr wr ∧ Ok cr wr) (fun _ i _ => n - (intOf i).toNat)
  case atStart => exact ⟨0, c, Nat.zero_le _, rfl, Own.nil _ _ _ _ _ _, Step.refl, X.out.1⟩
  case round =>
    obtain ⟨j, cr, hj, rfl, ho, s1, o1⟩ := hrel
    by_cases hjn : j < n
    · have hi : ∃ b, l[j]? = some b := ⟨l[j]'(by rw [HN.out]; exact hjn), by simp⟩
      obtain ⟨b, hi⟩ := hi
      obtain ⟨g, off, hga⟩ : ∃ g off, va = some ⟨g, off, none⟩ := by
        obtain ⟨g, off, cap, e, _⟩ := X.out.2.1.some (by rw [HN.out]; omega)
        injection e with e1
        exact ⟨g, off, e1⟩
      subst hga
      obtain ⟨vs, ⟨uc, uv, rfl, hb⟩, hcs⟩ := (X.out.2.1.keep s1 hqk hqk).at hi
      have CB := cpblo_any o1 hb
      have hbl := bloC_len hb.h hb.hash uc uv
      obtain ⟨B, hB⟩ : ∃ B, bloC b uc uv = B := ⟨_, rfl⟩
      rw [hB] at CB hcs hbl
      have hLl : (l.take j).length = j := by rw [List.length_take, HN.out]; omega
      obtain ⟨ua, un, hu, _⟩ := ho.sl.form
      rw [hLl] at hu
      subst hu
      have hLl2 := Lib.hid hLl
      clear hLl
      have T := Lib.hid (And.intro hcs (And.intro (show (Tryz.prog.info? 59).map (·.size) = some B.length by rw [info_blo, hbl]) (And.intro s1 (And.intro ho hi))))
      have hjn2 : (j : Int) < (n : Int) := by omega
      clear hcs hbl hb hB hi s1 o1 ho
      go_wp2_with (refine wpList_load_mid rfl 59 _ rfl g (off + j * 166) rfl B _ T.out.1 Tryz.underlying59 rfl T.out.2.1 ?_)
      with_reducible refine CB.mono ?_
      rintro e w2 ⟨vc, vv, c2, rfl, b2, s2, o2⟩
      obtain ⟨x1, x2, x3⟩ := put_one (T := TBlo) (x := b) (vs := bloC b vc vv) (k2 := 0) o2 ⟨vc, vv, rfl, b2⟩ 59
      have hbl := bloC_len b2.h b2.hash vc vv
      have OL := (T.out.2.2.2.1.kn s2).kn x3
      have sT := (T.out.2.2.1.trans s2.ofNo).trans x3.ofNo
      obtain ⟨zz, bz, i1, i2, i3⟩ := infoBlk
      have hLl := hLl2.out
      have hm1 : (l.take j).length + [b].length ≤ maxLen := by rw [hLl]; simp [maxLen]; omega
      have hm2 : ((l.take j).length + [b].length) * bz ≤ 140737488355328 := by
        rw [hLl]
        have : (j + [b].length) * bz ≤ 1001 * 1000 := Nat.mul_le_mul (by simp; omega) i3
        omega
      have isz : (Tryz.prog.info? 59).map (·.size) = some 166 := info_blo
      have izz : ((Tryz.prog.info? 59).bind (·.zero)).isSome = true := by kernel_rfl
      have hw : IntKind.i64.wrap ((j : Int) + 1) = ((j + 1 : Nat) : Int) := by rw [IntWalk.i64_in _ (by omega)]; rfl
      obtain ⟨U, hU⟩ : ∃ U, bloC b vc vv = U := ⟨_, rfl⟩
      rw [hU] at x1 x2 x3 hbl OL sT ⊢
      have TL := Lib.hid (And.intro isz (And.intro izz hbl))
      have X2 := Lib.hid sT
      clear CB s2 o2 b2 hU isz izz hbl x3 sT hLl
      go_wp2_with (first | (refine wpList_bs1 rfl (some 17) rfl 22 59 (.tmp 16) rfl Tryz.underlying22 TL.out.1 TL.out.2.1 TL.out.2.2 (by decide) (by decide) rfl ?_) | (at_builtin; refine wpList_app TBlo (z := zz) (bytes := bz) x1 rfl _ _ 22 rfl 59 Tryz.underlying22 i1 i2 (by decide) rfl rfl OL x2 hqz hm1 hm2 ?_; rintro v7 w7 c7 b1 b2 b3 -))
      go_roundw
      case rel =>
        refine ⟨j + 1, c7, by omega, by first | rfl | go_num, ?_, X2.out.trans b2, b3⟩
        have hlt : j < l.length := by rw [HN.out]; exact hjn
        have hlj : l[j] = b := by
          have := T.out.2.2.2.2
          rw [List.getElem?_eq_getElem hlt] at this
          injection this
        rw [List.take_succ_eq_append_getElem hlt, hlj]
        exact b1
      case measure => simp [intOf]; omega
    · have hjn2 : ¬ (j : Int) < (n : Int) := by omega
      have hjl : l.take j = l := List.take_of_length_le (by rw [HN.out]; omega)
      rw [hjl] at ho
      have X2 := Lib.hid (And.intro ho (And.intro s1 o1))
      clear s1 o1 ho
      go_wp2_with fail
      go_ret
      obtain ⟨ho, s1, o1⟩ := X2.out
      exact ⟨_, rfl, cr.turn q 0, (ho.turn hqz).sl, (Step.turn s1 rfl).own X.out.2.2, o1.turn hq0⟩
end
end Go.Proofs.YtgcobbapaaihiaaGreat

set_option linter.unusedVariables false
set_option linter.unusedSimpArgs false
namespace Go.Proofs.YtgcobbapaaihiaaGreat
open Go.RowKit

section
variable {c : Col} {w : World}

set_option maxRecDepth 100000 in
set_option maxHeartbeats 1600000 in
theorem copied29_any (hok : Ok c w) {s : Srv} {vc vo vm : Value} (hs : s.At c 0 w vc vo vm) (h1 : s.chain.length ≤ 1000) (h2 : s.other.length ≤ 1000) :
    Calls Tryz.prog 8 #[.agg #[vc, vo, vm, .int .i64 s.delay, .int .i64 s.slow]] w fun e w' => ∃ vc' vo' vm' c', e = .returned (.agg #[vc', vo', vm', .int .i64 s.delay, .int .i64 s.slow]) ∧ s.At c' 0 w' vc' vo' vm' ∧ Step No c w c' w' ∧ Ok c' w' := by
  obtain ⟨q, hq, hqc⟩ := hok.spare 0
  have hq0 : q ≠ 0 := by omega
  have hqn : ¬ One q 0 := fun e => absurd e (by show ¬ 0 = q; omega)
  obtain ⟨vca, vcc, rfl, _⟩ := hs.chain.form
  obtain ⟨voa, voc, rfl, _⟩ := hs.other.form
  obtain ⟨vma, vmc, rfl, _⟩ := hs.moods.form
  obtain ⟨a1, p1, s1⟩ := newAt hok [.slice vca s.chain.length vcc, .slice voa s.other.length voc, .slice vma s.moods.length vmc, .int .i64 s.delay, .int .i64 s.slow] 25 q
  obtain ⟨a2, p2, s2⟩ := newAt p1 [.slice none 0 0, .slice none 0 0, .slice none 0 0, .int .i64 0, .int .i64 0] 25 q
  rw [World.size_alloc] at a2 p2 s2
  have a1' := a1.kn s2
  have hs2 := (hs.kn s1).kn s2
  have CB := cpblos_any p2 hs2.chain h1
  obtain ⟨bx, hbx⟩ : ∃ b, w.heap.size = b := ⟨_, rfl⟩
  rw [hbx] at a1' a2 p2 s2 s1 hs2 CB
  obtain ⟨W2, hW2⟩ : ∃ W, (w.alloc (.cells #[.slice vca s.chain.length vcc, .slice voa s.other.length voc, .slice vma s.moods.length vmc, .int .i64 s.delay, .int .i64 s.slow] 25)).alloc (.cells #[.slice none 0 0, .slice none 0 0, .slice none 0 0, .int .i64 0, .int .i64 0] 25) = W := ⟨_, rfl⟩
  have hW2' : (w.alloc (.cells ([.slice vca s.chain.length vcc, .slice voa s.other.length voc, .slice vma s.moods.length vmc, .int .i64 s.delay, .int .i64 s.slow] : List Value).toArray 25)).alloc (.cells ([.slice none 0 0, .slice none 0 0, .slice none 0 0, .int .i64 0, .int .i64 0] : List Value).toArray 25) = W2 := hW2
  rw [hW2'] at a1' a2 p2 s2 hs2 CB
  have y0 := a1'.get (i := 0) rfl
  have X := Lib.hid (And.intro a1' (And.intro a2 (And.intro (s1.trans s2) (And.intro hs2 hW2))))
  have HB := Lib.hid hs
  clear hok a1 p1 s1 a2 p2 s2 a1' hs2 hW2' hW2 hs
  go_enter Tryz.func8, Tryz.ntmps8
  go_wp2_with fail
  rw [X.out.2.2.2.2]
  with_reducible refine CB.mono ?_
  rintro e w3 ⟨v3, c3, rfl, sl3, s3, o3⟩
  obtain ⟨aa, ab, ac, hs2, _⟩ := X.out
  have a3 := aa.kn s3
  have f3 := a3.fz o3 hq0 0
  have y3 := a3.get (i := 0) rfl
  have a4 := a3.setN (i := 0) (by simp) v3
  have st4 : Step (One q) c3 w3 c3 (w3.setCell ⟨bx, 0, none⟩ v3) := (Step.refl (K := One q)).setCell (a := ⟨bx, 0, none⟩) (.inr a3.col) _
  have hs4 := (hs2.kn s3).keep st4 hqn
  have sl4 := sl3.keep st4 hqn hqn
  have ab4 := (ab.kn s3).offC bx 0 v3 (by omega)
  have o4 : Ok c3 (w3.setCell ⟨bx, 0, none⟩ v3) := o3.setCell _ _
  have s4 : Step (One q) c w c3 (w3.setCell ⟨bx, 0, none⟩ v3) := (ac.trans s3).ofNo.trans st4
  have CB2 := cpblos_any o4 hs4.other h2
  have y4 := a4.get (i := 1) rfl
  obtain ⟨W4, hW4⟩ : ∃ W, w3.setCell ⟨bx, 0, none⟩ v3 = W := ⟨_, rfl⟩
  rw [hW4] at a4 hs4 sl4 ab4 o4 s4 CB2 y4
  obtain ⟨v3a, v3n, rfl, _⟩ := sl3.form
  have X4 := Lib.hid (And.intro a4 (And.intro ab4 (And.intro s4 (And.intro hs4 (And.intro sl4 hW4)))))
  clear X CB aa ab ac hs2 a3 a4 st4 hs4 sl4 ab4 o4 s4 sl3 s3 o3
  go_wp2_with fail
  with_reducible refine CB2.mono ?_
  rintro e w5 ⟨v5, c5, rfl, sl5, s5, o5⟩
  obtain ⟨aa, ab, ac, hs4, sl4, _⟩ := X4.out
  have a5 := aa.kn s5
  have f5 := a5.fz o5 hq0 1
  have y5 := a5.get (i := 1) rfl
  have a6 := a5.setN (i := 1) (by simp) v5
  have st6 : Step (One q) c5 w5 c5 (w5.setCell ⟨bx, 1, none⟩ v5) := (Step.refl (K := One q)).setCell (a := ⟨bx, 1, none⟩) (.inr a5.col) _
  have hs6 := (hs4.kn s5).keep st6 hqn
  have sl6 := (sl4.kn s5).keep st6 hqn hqn
  have tl6 := sl5.keep st6 hqn hqn
  have ab6 := (ab.kn s5).offC bx 1 v5 (by omega)
  have o6 : Ok c5 (w5.setCell ⟨bx, 1, none⟩ v5) := o5.setCell _ _
  have s6 : Step (One q) c w c5 (w5.setCell ⟨bx, 1, none⟩ v5) := (ac.trans s5.ofNo).trans st6
  have CB3 := cpints_any o6 hs6.moods hs6.nmoods
  have y6 := a6.get (i := 2) rfl
  obtain ⟨W6, hW6⟩ : ∃ W, w5.setCell ⟨bx, 1, none⟩ v5 = W := ⟨_, rfl⟩
  rw [hW6] at a6 hs6 sl6 tl6 ab6 o6 s6 CB3 y6
  obtain ⟨v5a, v5n, rfl, _⟩ := sl5.form
  have X6 := Lib.hid (And.intro a6 (And.intro ab6 (And.intro s6 (And.intro hs6 (And.intro sl6 (And.intro tl6 hW6))))))
  clear X4 CB2 aa ab ac hs4 sl4 a5 a6 st6 hs6 sl6 tl6 ab6 o6 s6 sl5 s5 o5 f3 y3 hW4 y4
  go_wp2_with fail
  with_reducible refine CB3.mono ?_
  rintro e w7 ⟨v7, c7, rfl, sl7, s7, o7⟩
  obtain ⟨aa, ab, ac, hs6, sl6, tl6, _⟩ := X6.out
  have a7 := aa.kn s7
  have f7 := a7.fz o7 hq0 2
  have y7 := a7.get (i := 2) rfl
  have a8 := a7.setN (i := 2) (by simp) v7
  have st8 : Step (One q) c7 w7 c7 (w7.setCell ⟨bx, 2, none⟩ v7) := (Step.refl (K := One q)).setCell (a := ⟨bx, 2, none⟩) (.inr a7.col) _
  have sl8 := (sl6.kn s7).keep st8 hqn hqn
  have tl8 := (tl6.kn s7).keep st8 hqn hqn
  have ul8 := sl7.keep st8 hqn hqn
  have ab8 := (ab.kn s7).offC bx 2 v7 (by omega)
  have o8 : Ok c7 (w7.setCell ⟨bx, 2, none⟩ v7) := o7.setCell _ _
  have s8 : Step (One q) c w c7 (w7.setCell ⟨bx, 2, none⟩ v7) := (ac.trans s7.ofNo).trans st8
  obtain ⟨v7a, v7n, rfl, _⟩ := sl7.form
  have hl8 : ([Value.slice v3a s.chain.length v3n, .slice v5a s.other.length v5n, .slice v7a s.moods.length v7n, .int .i64 s.delay, .int .i64 s.slow] : List Value).length = 5 := rfl
  have h18 : ∀ u ∈ ([Value.slice v3a s.chain.length v3n, .slice v5a s.other.length v5n, .slice v7a s.moods.length v7n, .int .i64 s.delay, .int .i64 s.slow] : List Value), u.oneCell' = true := by
    intro u hu
    simp only [List.mem_cons, List.not_mem_nil, or_false] at hu
    rcases hu with rfl | rfl | rfl | rfl | rfl <;> rfl
  have hi8 : (Tryz.prog.info? 25).map (·.size) = some 5 := by kernel_rfl
  obtain ⟨C, hC⟩ : ∃ C, [Value.slice v3a s.chain.length v3n, .slice v5a s.other.length v5n, .slice v7a s.moods.length v7n, .int .i64 s.delay, .int .i64 s.slow] = C := ⟨_, rfl⟩
  have a8' : At c7 (w7.setCell ⟨bx, 2, none⟩ (.slice v7a s.moods.length v7n)) bx q C := by rw [← hC]; exact a8
  rw [hC] at hl8 h18
  have hi0 : (Tryz.prog.info? 25).map (·.size) = some C.length := by rw [hi8, hl8]
  have hi1 : (Tryz.prog.info? 25).map (·.size) = some C.toArray.size := by rw [hi8]; simp [hl8]
  have ht8 := ab8.there (o := 0) (n := C.toArray.size) o8 hq0 (by simp [hl8])
  have a9 := (ab8.st o8 hq0 (ty := 25) (us := C) (by rw [hl8]; rfl) hi0 h18).2
  have st9 : Step (One q) c7 (w7.setCell ⟨bx, 2, none⟩ (.slice v7a s.moods.length v7n)) c7 ((w7.setCell ⟨bx, 2, none⟩ (.slice v7a s.moods.length v7n)).setCells (bx + 1) 0 C) := Step.setCells (.inr ab8.col) _ _ _ Step.refl
  have X8 := Lib.hid (And.intro a8'.cells (And.intro hi0 (And.intro ht8 (And.intro hi1 (And.intro (all_oneCell_toArray h18) (And.intro a9.cells (And.intro (sl8.keep st9 hqn hqn) (And.intro (tl8.keep st9 hqn hqn) (And.intro (ul8.keep st9 hqn hqn) (And.intro (s8.trans st9) (And.intro (Ok.setCells (b := bx + 1) C 0 _ o8) hC)))))))))))
  clear X6 CB3 aa ab ac hs6 sl6 tl6 a7 a8 a8' st8 sl8 tl8 ul8 ab8 o8 s8 sl7 s7 o7 f5 y5 y6 hW6 hl8 h18 hi8 hC hi0 hi1 ht8 a9 st9
  go_wp2_with (first | (refine wpList_load_mid rfl 25 _ rfl bx 0 rfl C _ X8.out.1 Tryz.underlying25 rfl X8.out.2.1 ?_)
                      | (refine wpList_store_mid rfl 25 _ _ rfl (bx + 1) 0 C.toArray rfl rfl X8.out.2.2.1 X8.out.2.2.2.1 X8.out.2.2.2.2.1 ?_))
  obtain ⟨_, hi0, _, _, _, hc9, sl9, tl9, ul9, s9, o9, hC⟩ := X8.out
  have hs := HB.out
  exact bodyPost_ret (results_cell_mid rfl _ _ (bx + 1) 0 C _ rfl hc9 Tryz.underlying25 rfl hi0) rfl ⟨_, _, _, c7, by rw [← hC], ⟨sl9, tl9, ul9, hs.nchain, hs.nother, hs.nmoods, hs.delay, hs.slow⟩, s9.own hqc, o9⟩
end
end Go.Proofs.YtgcobbapaaihiaaGreat

set_option linter.unusedVariables false
set_option linter.unusedSimpArgs false
namespace Go.Proofs.YtgcobbapaaihiaaGreat
open Go.RowKit

theorem mod_turn (n : Int) (m : Nat) : (n + m) % (m : Int) = n % (m : Int) := by
  rw [Int.add_emod_right]

theorem moodS_turn {s : Srv} {n : Int} (h0 : 0 ≤ n) : moodS s (n + s.moods.length) = moodS s n := by
  unfold moodS
  have h1 : (checkS s ≠ 0 ∨ n + (s.moods.length : Int) < 0) = (checkS s ≠ 0 ∨ n < 0) := by
    have : (n + (s.moods.length : Int) < 0) = (n < 0) := by simp only [eq_iff_iff]; omega
    rw [this]
  rw [mod_turn]
  simp only [h1]

theorem replyT_mood {s s' : Srv} {n n' : Int} (hm : moodS s n = moodS s' n') (hc : s.chain = s'.chain) (ho : s.other = s'.other) (k1 e0 e1 id h : Int) : replyT s n k1 e0 e1 id h = replyT s' n' k1 e0 e1 id h := by
  have h1 : ∀ g, wayT g s h id = wayT g s' h id := fun g => by unfold wayT; rw [hc]
  have h2 : offT s h id = offT s' h id := by unfold offT; rw [hc]
  have h3 : otherT s h id = otherT s' h id := by unfold otherT; rw [ho, h1]
  unfold replyT noB outS
  rw [hm, h1, h1, h1, h1, h2, h3]
theorem waitT_mood {s s' : Srv} {n n' : Int} (hm : moodS s n = moodS s' n') (hd : s.delay = s'.delay) (hs : s.slow = s'.slow) (l : List UInt8) : waitT s n l = waitT s' n' l := by
  unfold waitT tickS
  rw [hm, hd, hs]

def onlyS (s : Srv) (n : Int) : Srv := { s with moods := [s.moods.getD (n % s.moods.length).toNat 0] }
def noneS (s : Srv) : Srv := { s with moods := [] }

theorem checkS_parts {s : Srv} (h : checkS s = 0) : ¬ 64 < s.moods.length ∧ ¬ badW s.delay = true ∧ ¬ badW s.slow = true ∧ ¬ s.moods.any badM = true := by
  unfold checkS at h
  split at h
  · cases h
  split at h
  · cases h
  split at h
  · cases h
  split at h
  · cases h
  · exact ⟨by assumption, by assumption, by assumption, by assumption⟩
theorem checkS_of {s : Srv} (h : ¬ 64 < s.moods.length ∧ ¬ badW s.delay = true ∧ ¬ badW s.slow = true ∧ ¬ s.moods.any badM = true) : checkS s = 0 := by
  unfold checkS
  rw [if_neg h.1, if_neg h.2.1, if_neg h.2.2.1, if_neg h.2.2.2]

theorem only_check {s : Srv} (h : checkS s = 0) {n : Int} (h0 : 0 ≤ n) (hl : 0 < s.moods.length) : checkS (onlyS s n) = 0 := by
  obtain ⟨a, b, c, d⟩ := checkS_parts h
  refine checkS_of ⟨by show ¬ 64 < 1; omega, b, c, ?_⟩
  intro hx
  have hlt : (n % (s.moods.length : Int)).toNat < s.moods.length := by
    have h1 := Int.emod_nonneg n (b := (s.moods.length : Int)) (by omega)
    have h2 := Int.emod_lt_of_pos n (b := (s.moods.length : Int)) (by omega)
    omega
  have hg : s.moods.getD (n % s.moods.length).toNat 0 = s.moods[(n % (s.moods.length : Int)).toNat] := by
    rw [List.getD_eq_getElem?_getD, List.getElem?_eq_getElem hlt]; rfl
  have hx2 : badM (s.moods.getD (n % s.moods.length).toNat 0) = true := by simpa [onlyS] using hx
  rw [hg] at hx2
  exact d (List.any_eq_true.2 ⟨_, List.getElem_mem hlt, hx2⟩)

theorem moodS_of {s : Srv} {n : Int} (h : checkS s = 0) (h0 : 0 ≤ n) (hl : 0 < s.moods.length) : moodS s n = s.moods.getD (n % s.moods.length).toNat 0 := by
  unfold moodS
  rw [if_neg (fun e => e.elim (fun e => e h) (fun e => absurd e (by omega))), if_neg (show ¬ s.moods.length = 0 by omega)]
theorem only_mood {s : Srv} (h : checkS s = 0) {n : Int} (h0 : 0 ≤ n) (hl : 0 < s.moods.length) : moodS (onlyS s n) 0 = moodS s n := by
  rw [moodS_of (only_check h h0 hl) (by omega) (by simp [onlyS]), moodS_of h h0 hl]
  rfl
theorem same_mood {s : Srv} {n : Int} (h0 : 0 ≤ n) (hl : s.moods.length = 0) : moodS s 0 = moodS s n := by
  unfold moodS
  have h1 : (checkS s ≠ 0 ∨ (0 : Int) < 0) = (checkS s ≠ 0 ∨ n < 0) := by
    have h2 : ((0 : Int) < 0) = (n < 0) := by simp only [eq_iff_iff]; omega
    rw [h2]
  simp only [h1, if_pos hl]
theorem none_check {s : Srv} (h : checkS s = 0) : checkS (noneS s) = 0 := by
  obtain ⟨a, b, c, d⟩ := checkS_parts h
  exact checkS_of ⟨by show ¬ 64 < 0; omega, b, c, by simp [noneS]⟩
theorem none_mood {s : Srv} (h : checkS s = 0) {n : Int} (h0 : 0 ≤ n) : moodS (noneS s) n = 1 := by
  unfold moodS
  rw [if_neg (fun e => e.elim (fun e => e (none_check h)) (fun e => absurd e (by omega))), if_pos (show (noneS s).moods.length = 0 from rfl)]
theorem none_reply {s : Srv} (h : checkS s = 0) {n : Int} (h0 : 0 ≤ n) (id x : Int) : replyT (noneS s) n 1 0 0 id x = wayT gStay s x id := by
  unfold replyT noB outS
  rw [none_mood h h0]
  rfl
theorem encN_ne (id : Int) (b : Blo) : encN id b ≠ [] := by
  intro e
  have := congrArg List.length e
  have h2 : (numB 2).length = 2 := by decide
  simp [encN, h2] at this
theorem honest_no {s : Srv} {x id : Int} (h : ¬ ((getB s.chain x).isSome = true ∧ ansE id (getD0 s.chain x) = 0)) : wayT gStay s x id = [] := by
  unfold wayT ansT gStay ansB
  by_cases h1 : (getB s.chain x).isSome = true
  · rw [if_pos h1, if_neg (fun e => h ⟨h1, e⟩)]
  · rw [if_neg h1]
theorem honest_yes {s : Srv} {x id : Int} (h1 : (getB s.chain x).isSome = true) (h2 : ansE id (getD0 s.chain x) = 0) : wayT gStay s x id = encN id (getD0 s.chain x) := by
  unfold wayT ansT gStay ansB
  rw [if_pos h1, if_pos h2]
end Go.Proofs.YtgcobbapaaihiaaGreat

set_option linter.unusedVariables false
set_option linter.unusedSimpArgs false
namespace Go.Proofs.YtgcobbapaaihiaaGreat
open Go.RowKit

section
variable {c : Col} {w : World}

set_option maxRecDepth 100000 in
set_option maxHeartbeats 1600000 in
theorem three_any (hok : Ok c w) :
    Calls Tryz.prog 23 #[] w fun r w' => ∃ v sv : Value, r = .returned (.tuple #[v, sv]) ∧ ∃ c' L, FitL 3 L ∧ Sl TBlo c' 0 0 w' v L ∧ Step No c w c' w' ∧ Ok c' w' := by
  obtain ⟨x1, x2, x3⟩ := put_one (T := TVal) (x := ⟨[1, 0, 0, 0], 3⟩) (vs := [.int .u8 1, .int .u8 0, .int .u8 0, .int .u8 0, .int .i64 3]) (k2 := 0) hok ⟨rfl, rfl, ⟨by decide, by decide⟩⟩ 93
  have BU := build_any x1 x2
  have X := Lib.hid x3
  clear x1 x2 x3 hok
  go_enter Tryz.func23, Tryz.ntmps23
  go_wp2_with fail
  refine BU.mono ?_
  rintro e w1 ⟨v, sv, rfl, c1, L, hL, sl, s1, o1⟩
  have F := Lib.hid (And.intro hL (And.intro sl (And.intro (X.out.trans s1) o1)))
  clear BU hL sl s1 o1
  go_wp2_with fail
  go_ret2
  exact ⟨_, _, rfl, c1, L, F.out⟩

set_option maxRecDepth 100000 in
set_option maxHeartbeats 1600000 in
theorem askL_any (hok : Ok c w) (id h : Int) (hid : idB id = true) (hh : heightB h = true) (kx : Nat) :
    Calls Tryz.prog 25 #[.int .i64 id, .int .i64 h] w fun r w' => ∃ v, r = .returned v ∧ ∃ c', Sl TByte c' kx 0 w' v (encA id h) ∧ Step No c w c' w' ∧ Ok c' w' := by
  have AK := ask_ok hok id h hid hh kx
  clear hok hid hh
  go_enter Tryz.func25, Tryz.ntmps25
  go_wp2_with fail
  refine AK.mono ?_
  rintro e w1 ⟨v, rfl, c1, sl, s1, o1⟩
  have F := Lib.hid (And.intro sl (And.intro s1 o1))
  clear AK sl s1 o1
  go_wp2_with fail
  go_ret
  exact ⟨_, rfl, c1, F.out⟩
end
end Go.Proofs.YtgcobbapaaihiaaGreat

set_option linter.unusedVariables false
set_option linter.unusedSimpArgs false
namespace Go.Proofs.YtgcobbapaaihiaaGreat
open Go.RowKit

section
variable {c : Col} {w : World}

set_option maxRecDepth 100000 in
theorem word1_any (hok : Ok c w) {k p b : Nat} {bs : List UInt8} {a : Nat} {f : Int × Int} (h : IsRd c k w p bs a f) (hk0 : k ≠ 0) (hn : a + 8 ≤ bs.length) (hc : w.cell? ⟨b, 0, none⟩ = some (.pointer (some ⟨p, 0, none⟩))) (at0 : Int) :
    Calls Tryz.prog 172 #[.int .i64 at0, .pointer (some ⟨b, 0, none⟩)] w fun r w' => r = .returned (.int .u64 (bigN ((bs.drop a).take 8))) ∧
      ∃ c', IsRd c' k w' p bs (a + 8) f ∧ Step (One k) c w c' w' ∧ Ok c' w' := by
  have T : Calls Tryz.prog 135 #[.pointer (some ⟨p, 0, none⟩), .int .i64 8, .int .i64 at0, .func (.func 136) #[] #[]] w fun r w' => r = .returned (.int .u64 (bigN ((bs.drop a).take 8))) ∧ IsRd c k w' p bs (a + 8) f ∧ Step (One k) c w c w' ∧ Ok c w' :=
    takeN_any hok h hk0 8 hn (by omega) at0
  obtain ⟨r, hr⟩ : ∃ r, bigN ((bs.drop a).take 8) = r := ⟨_, rfl⟩
  rw [hr] at T ⊢
  clear h hok hn hr
  go_enter Tryz.func172, Tryz.ntmps172
  go_wp2_with fail
  with_reducible refine T.mono ?_
  rintro e w1 ⟨rfl, i1, s1, o1⟩
  have X := Lib.hid (And.intro i1 (And.intro s1 o1))
  clear T i1 s1 o1
  go_wp2_with fail
  go_ret
  exact ⟨rfl, c, X.out⟩

set_option maxRecDepth 100000 in
set_option maxHeartbeats 800000 in
theorem bytes1_any (hok : Ok c w) {k p b b2 : Nat} {bs : List UInt8} {a : Nat} {f : Int × Int} (h : IsRd c k w p bs a f) (hk0 : k ≠ 0) (x rest : List UInt8) (hx : x.length < 1000000000) (hb : bs.drop a = numB x.length ++ (x ++ rest)) (most : Int) (hm : (x.length : Int) ≤ most)
    (hc : w.cell? ⟨b, 0, none⟩ = some (.pointer (some ⟨p, 0, none⟩))) (hc2 : w.cell? ⟨b2, 0, none⟩ = some (.int .i64 most)) (hb0 : c b = 0) (hb20 : c b2 = 0) (hbl : b < w.heap.size) (hb2l : b2 < w.heap.size) (at0 : Int) :
    Calls Tryz.prog 100 #[.int .i64 at0, .pointer (some ⟨b, 0, none⟩), .pointer (some ⟨b2, 0, none⟩)] w fun r w' => ∃ v, r = .returned v ∧
      ∃ c', Own TByte 5 c' 0 0 w' v x ∧ IsRd c' k w' p bs (a + (numB x.length ++ x).length) f ∧ Step (One k) c w c' w' ∧ Ok c' w' := by
  have R := rnum_any hok h hk0 x.length (by omega) hb at0
  have hmx : max most 0 = most := by omega
  have hle := h.le
  have hd2 : (bs.drop (a + (numB x.length).length)).take x.length = x := by rw [← List.drop_drop, hb]; simp
  have hl2 : a + (numB x.length).length + x.length ≤ bs.length := by
    have := congrArg List.length hb
    simp only [List.length_drop, List.length_append] at this
    omega
  have hmd : decide ((x.length : Int) ≤ most) = true := by simp; exact hm
  have H := Lib.hid (And.intro hd2 hl2)
  clear h hok hb hd2 hl2 hle
  go_enter Tryz.func100, Tryz.ntmps100
  go_wp2_with fail
  with_reducible refine R.mono ?_
  rintro e w1 ⟨rfl, c1, i1, s1, o1⟩
  have z1 := (s1.cell (o := 0) hbl (by rw [hb0]; exact fun h => hk0 h.symm)).trans hc
  have z2 := (s1.cell (o := 0) hb2l (by rw [hb20]; exact fun h => hk0 h.symm)).trans hc2
  have M := must_yes w1 4 at0
  have T := takeB_any o1 i1 hk0 x.length H.out.2 at0
  rw [H.out.1] at T
  have S1 := Lib.hid s1
  clear R i1 s1 o1 hc hc2
  go_wp2_with fail
  with_reducible refine M.mono ?_
  rintro e w2 ⟨rfl, rfl⟩
  go_wp2_with fail
  with_reducible refine T.mono ?_
  rintro e w3 ⟨v, rfl, c3, p3, i3, s3, o3⟩
  have X := Lib.hid (And.intro p3 (And.intro i3 (And.intro s3 o3)))
  clear T M p3 i3 s3 o3 z1 z2
  go_wp2_with fail
  go_ret
  obtain ⟨p3, i3, s3, o3⟩ := X.out
  exact ⟨v, rfl, c3, p3, by rw [List.length_append, ← Nat.add_assoc]; exact i3, S1.out.trans s3, o3⟩
end
end Go.Proofs.YtgcobbapaaihiaaGreat

set_option linter.unusedVariables false
set_option linter.unusedSimpArgs false
namespace Go.Proofs.YtgcobbapaaihiaaGreat
open Go.RowKit

section
variable {c : Col} {w : World}

set_option maxRecDepth 100000 in
set_option maxHeartbeats 800000 in
theorem readsWord (hok : Ok c w) {k p b : Nat} {bs : List UInt8} {a : Nat} {f : Int} (h : IsRd c k w p bs a (0, f)) (hk0 : k ≠ 0) (hn : a + 8 ≤ bs.length) (hc : w.cell? ⟨b, 0, none⟩ = some (.pointer (some ⟨p, 0, none⟩))) :
    Calls Tryz.prog 171 #[.pointer (some ⟨p, 0, none⟩), .func (.func 172) #[] #[.pointer (some ⟨b, 0, none⟩)]] w fun r w' => r = .returned (.int .u64 (bigN ((bs.drop a).take 8))) ∧ ∃ c', IsRd c' k w' p bs (a + 8) (0, f) ∧ Step (One k) c w c' w' ∧ Ok c' w' := by
  have R := word1_any hok h hk0 hn hc a
  obtain ⟨bv, x0, ow⟩ := h.row
  have y1 := x0.get (i := 1) rfl
  have y2 := x0.get (i := 2) rfl
  have y4 := x0.get (i := 4) rfl
  clear h x0 ow hok
  go_enter_defers Tryz.func171, Tryz.ntmps171
  go_wp2_with fail
  with_reducible refine R.mono ?_
  rintro e w1 ⟨rfl, c1, X0⟩
  have X := Lib.hid X0
  clear R X0
  go_wp2_with fail
  refine leaves_cons (f := 134) (args := #[.pointer (some ⟨p, 0, none⟩)]) (by simp) (by simp [go_sem]) ?_
  refine (caught_idle p w1).mono ?_
  rintro e u' w'' ⟨rfl, rfl, rfl⟩
  exact ⟨_, results_tmp rfl _ _ _, rfl, c1, X.out⟩

set_option maxRecDepth 100000 in
set_option maxHeartbeats 800000 in
theorem readsBytes (hok : Ok c w) {k p b b2 : Nat} {bs : List UInt8} {a : Nat} {f : Int} (h : IsRd c k w p bs a (0, f)) (hk0 : k ≠ 0) (x rest : List UInt8) (hx : x.length < 1000000000) (hb : bs.drop a = numB x.length ++ (x ++ rest)) (most : Int) (hm : (x.length : Int) ≤ most) (hc : w.cell? ⟨b, 0, none⟩ = some (.pointer (some ⟨p, 0, none⟩))) (hc2 : w.cell? ⟨b2, 0, none⟩ = some (.int .i64 most)) (hb0 : c b = 0) (hb20 : c b2 = 0) (hbl : b < w.heap.size) (hb2l : b2 < w.heap.size) :
    Calls Tryz.prog 99 #[.pointer (some ⟨p, 0, none⟩), .func (.func 100) #[] #[.pointer (some ⟨b, 0, none⟩), .pointer (some ⟨b2, 0, none⟩)]] w fun r w' => ∃ v, r = .returned v ∧ ∃ c', Own TByte 5 c' 0 0 w' v x ∧ IsRd c' k w' p bs (a + (numB x.length ++ x).length) (0, f) ∧ Step (One k) c w c' w' ∧ Ok c' w' := by
  have R := bytes1_any hok h hk0 x rest hx hb most hm hc hc2 hb0 hb20 hbl hb2l a
  obtain ⟨bv, x0, ow⟩ := h.row
  have y1 := x0.get (i := 1) rfl
  have y2 := x0.get (i := 2) rfl
  have y4 := x0.get (i := 4) rfl
  clear h x0 ow hok
  go_enter_defers Tryz.func99, Tryz.ntmps99
  go_wp2_with fail
  with_reducible refine R.mono ?_
  rintro e w1 ⟨v, rfl, c1, X0⟩
  have X := Lib.hid X0
  clear R X0
  go_wp2_with fail
  refine leaves_cons (f := 134) (args := #[.pointer (some ⟨p, 0, none⟩)]) (by simp) (by simp [go_sem]) ?_
  refine (caught_idle p w1).mono ?_
  rintro e u' w'' ⟨rfl, rfl, rfl⟩
  exact ⟨_, results_tmp rfl _ _ _, v, rfl, c1, X.out⟩

set_option maxRecDepth 100000 in
theorem Word_any (hok : Ok c w) {k p : Nat} {bs : List UInt8} {a : Nat} {f : Int} (h : IsRd c k w p bs a (0, f)) (hk0 : k ≠ 0) (hn : a + 8 ≤ bs.length) :
    Calls Tryz.prog 142 #[.pointer (some ⟨p, 0, none⟩)] w fun r w' => r = .returned (.int .u64 (bigN ((bs.drop a).take 8))) ∧ ∃ c', IsRd c' k w' p bs (a + 8) (0, f) ∧ Step (One k) c w c' w' ∧ Ok c' w' := by
  have s1 : Step No c w c (w.alloc (.cells #[.pointer (some ⟨p, 0, none⟩)] 112)) := Step.refl.alloc _
  have a1 := At.new0 hok [.pointer (some ⟨p, 0, none⟩)] 112
  have R := readsWord (hok.alloc _) (h.kn s1) hk0 hn a1.c0
  have hmf : ∀ (fn : Fn) (first cap : Array Value) (w : World), (Instr.makeFunc fn first cap).run Tryz.prog w = .ok (.func fn first cap) w := fun _ _ _ _ => rfl
  have S := Lib.hid s1
  clear h hok s1 a1
  go_enter Tryz.func142, Tryz.ntmps142
  go_wp2_with fail
  with_reducible refine R.mono ?_
  rintro e w1 ⟨rfl, c1, i1, s2, o1⟩
  have HX := Lib.hid (And.intro i1 (And.intro (S.out.ofNo.trans s2) o1))
  clear i1 s2 o1 R
  go_wp2_with fail
  go_ret
  exact ⟨rfl, c1, HX.out⟩

set_option maxRecDepth 100000 in
theorem Bytes_any (hok : Ok c w) {k p : Nat} {bs : List UInt8} {a : Nat} {f : Int} (h : IsRd c k w p bs a (0, f)) (hk0 : k ≠ 0) (x rest : List UInt8) (hx : x.length < 1000000000) (hb : bs.drop a = numB x.length ++ (x ++ rest)) (most : Int) (hm : (x.length : Int) ≤ most) :
    Calls Tryz.prog 57 #[.pointer (some ⟨p, 0, none⟩), .int .i64 most] w fun r w' => ∃ v, r = .returned v ∧ ∃ c', Own TByte 5 c' 0 0 w' v x ∧ IsRd c' k w' p bs (a + (numB x.length ++ x).length) (0, f) ∧ Step (One k) c w c' w' ∧ Ok c' w' := by
  have s1 : Step No c w c (w.alloc (.cells #[.pointer (some ⟨p, 0, none⟩)] 112)) := Step.refl.alloc _
  have a1 := At.new0 hok [.pointer (some ⟨p, 0, none⟩)] 112
  have o1 := hok.alloc (.cells #[.pointer (some ⟨p, 0, none⟩)] 112)
  have s2 : Step No c (w.alloc (.cells #[.pointer (some ⟨p, 0, none⟩)] 112)) c ((w.alloc (.cells #[.pointer (some ⟨p, 0, none⟩)] 112)).alloc (.cells #[.int .i64 most] 3)) := Step.refl.alloc _
  have a2 := At.new0 o1 [.int .i64 most] 3
  have a12 := a1.keep s2 (fun h => h)
  have R := readsBytes (o1.alloc _) ((h.kn s1).kn s2) hk0 x rest hx hb most hm a12.c0 a2.c0 a12.col a2.col a12.lt a2.lt
  rw [World.size_alloc] at R
  have hmf : ∀ (fn : Fn) (first cap : Array Value) (w : World), (Instr.makeFunc fn first cap).run Tryz.prog w = .ok (.func fn first cap) w := fun _ _ _ _ => rfl
  have z1 := a12.c0
  have S := Lib.hid (s1.trans s2)
  clear h hok s1 a1 o1 s2 a2 a12
  go_enter Tryz.func57, Tryz.ntmps57
  go_wp2_with fail
  with_reducible refine R.mono ?_
  rintro e w1 ⟨v, rfl, c1, p1, i1, s2, o1⟩
  have HX := Lib.hid (And.intro p1 (And.intro i1 (And.intro (S.out.ofNo.trans s2) o1)))
  clear p1 i1 s2 o1 R
  go_wp2_with fail
  go_ret
  exact ⟨v, rfl, c1, HX.out⟩

set_option maxRecDepth 100000 in
theorem Text_any (hok : Ok c w) {k p : Nat} {bs : List UInt8} {a : Nat} {f : Int} (h : IsRd c k w p bs a (0, f)) (hk0 : k ≠ 0) (x rest : List UInt8) (hx : x.length < 1000000000) (hb : bs.drop a = numB x.length ++ (x ++ rest)) (most : Int) (hm : (x.length : Int) ≤ most) :
    Calls Tryz.prog 138 #[.pointer (some ⟨p, 0, none⟩), .int .i64 most] w fun r w' => r = .returned (.string ⟨x.toArray⟩) ∧ ∃ c', IsRd c' k w' p bs (a + (numB x.length ++ x).length) (0, f) ∧ Step (One k) c w c' w' ∧ Ok c' w' := by
  have R := Bytes_any hok h hk0 x rest hx hb most hm
  clear h hok
  go_enter Tryz.func138, Tryz.ntmps138
  go_wp2_with fail
  with_reducible refine R.mono ?_
  rintro e w1 ⟨v, rfl, c1, p1, X⟩
  have hcv := conv_sl (P := Tryz.prog) p1.sl 26 9 5 Tryz.underlying26 Tryz.underlying5 Tryz.underlying9
  obtain ⟨va, vc, rfl, _⟩ := p1.sl.form
  have HX := Lib.hid X
  clear X R p1
  go_wp2_with fail
  go_ret
  exact ⟨rfl, c1, HX.out⟩
end
end Go.Proofs.YtgcobbapaaihiaaGreat
