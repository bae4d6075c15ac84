/- ServerTurns, part 21: lemmas, each with its own conditions. -/
import Derived.Test.YtgcobbapaaihiaaGreatSt02
import Derived.Test.YtgcobbapaaihiaaGreatSt05
import Derived.Test.YtgcobbapaaihiaaGreatSt09
import Derived.Test.YtgcobbapaaihiaaGreatSt20
import Derived.Deep.CutRange
set_option linter.unusedVariables false
set_option linter.unusedSimpArgs false
namespace Go.Proofs.YtgcobbapaaihiaaGreat
open Go.RowKit

/-- What holds throughout. -/
structure BlkI (c : Col) (w : World) (q vb hb kh : Nat) (pre post : List Value) (cr : Col) (wr : World) : Prop where
  v : Wds cr wr vb (q + 1) 16
  h : WdsM cr wr hb kh pre post 8
  s : Step (Hi kh q) c w cr wr
  ok : Ok cr wr

section
variable {c : Col} {w : World}
theorem BlkI.go {q vb hb kh : Nat} {pre post : List Value} {cr c' : Col} {wr w' : World} {x : Nat} (h : BlkI c w q vb hb kh pre post cr wr) (s : Step (One x) cr wr c' w') (hx : q ≤ x) (hx1 : x ≠ q + 1) (hk : kh < q) (ok : Ok c' w') : BlkI c w q vb hb kh pre post c' w' :=
  ⟨h.v.keep s (fun e => hx1 e.symm), h.h.keep s (fun (e : kh = x) => by omega), h.s.hi s (.inr hx), ok⟩
theorem BlkI.no {q vb hb kh : Nat} {pre post : List Value} {cr c' : Col} {wr w' : World} (h : BlkI c w q vb hb kh pre post cr wr) (s : Step No cr wr c' w') (ok : Ok c' w') : BlkI c w q vb hb kh pre post c' w' :=
  ⟨h.v.keep s (fun e => e), h.h.keep s (fun e => e), h.s.trans s.ofNo, ok⟩
end

theorem BlkI.vst {c : Col} {w : World} {q vb hb kh : Nat} {pre post : List Value} {cr c' : Col} {wr w' : World} (h : BlkI c w q vb hb kh pre post cr wr) (s : Step (One (q + 1)) cr wr c' w') (hk : kh < q) (v : Wds c' w' vb (q + 1) 16) (ok : Ok c' w') : BlkI c w q vb hb kh pre post c' w' :=
  ⟨v, h.h.keep s (fun (e : kh = q + 1) => by omega), h.s.hi s (.inr (by omega)), ok⟩
/-- A word of v is written. -/
theorem BlkI.vset {c : Col} {w : World} {q vb hb kh : Nat} {pre post : List Value} {cr : Col} {wr : World} (h : BlkI c w q vb hb kh pre post cr wr) (hk : kh < q) {i : Nat} (hi : i < 16) {x : Nat} (hx : x < 4294967296) : BlkI c w q vb hb kh pre post cr (wr.setCell ⟨vb, i, none⟩ (.int .u32 x)) :=
  h.vst ((Step.refl (K := One (q + 1))).setCell (a := ⟨vb, i, none⟩) (.inr h.v.col) _) hk (h.v.set hi x hx) (h.ok.setCell _ _)
/-- Words of v are written. -/
theorem BlkI.vsets {c : Col} {w : World} {q vb hb kh : Nat} {pre post : List Value} {cr : Col} {wr : World} (h : BlkI c w q vb hb kh pre post cr wr) (hk : kh < q) {o : Nat} {l : List Nat} (hl : ∀ x ∈ l, x < 4294967296) (hn : o + l.length ≤ 16) :
    wr.there vb o (u32C l).length ∧ BlkI c w q vb hb kh pre post cr (wr.setCells vb o (u32C l)) := by
  obtain ⟨h1, h2⟩ := h.v.setN h.ok (Nat.succ_ne_zero q) hl hn
  exact ⟨h1, h.vst (Step.setCells (K := One (q + 1)) (.inr h.v.col) _ _ _ Step.refl) hk h2 (Ok.setCells _ _ _ h.ok)⟩

theorem or32 (x : Nat) (y : Int) (hx : x < 4294967296) : ∃ z : Nat, z < 4294967296 ∧ bits .or .u32 (x : Int) (y % 4294967296) = (z : Int) := by
  obtain ⟨m, hm⟩ : ∃ m : Nat, y % 4294967296 = (m : Int) := ⟨(y % 4294967296).toNat, by omega⟩
  rw [hm]
  exact ⟨x ||| m, Nat.or_lt_two_pow (n := 32) hx (by omega), u32_or_nat x m hx (by omega)⟩

theorem xorm32 (x : Nat) (y : Int) (hx : x < 4294967296) : ∃ z : Nat, z < 4294967296 ∧ bits .xor .u32 (x : Int) (y % 4294967296) = (z : Int) := by
  obtain ⟨m, hm⟩ : ∃ m : Nat, y % 4294967296 = (m : Int) := ⟨(y % 4294967296).toNat, by omega⟩
  rw [hm]
  exact ⟨x ^^^ m, Nat.xor_lt_two_pow (n := 32) hx (by omega), u32_xor_nat x m hx (by omega)⟩

theorem not32 (x : Nat) (hx : x < 4294967296) : ∃ z : Nat, z < 4294967296 ∧ bits .xor .u32 IntKind.u32.max (x : Int) = (z : Int) := by
  obtain ⟨z, h1, h2⟩ := xor32 4294967295 x (by omega) hx
  exact ⟨z, h1, h2⟩

theorem own_word {c : Col} {w : World} {k g len cap : Nat} {R : List Nat} (h : Own TU32 269 c k 0 w (.slice (some ⟨g, 0, none⟩) len cap) R) {n : Nat} (hn : n < R.length) : ∃ y : Nat, y < 4294967296 ∧ w.cell? ⟨g, n, none⟩ = some (.int .u32 y) := by
  obtain ⟨vs, ⟨rfl, hy⟩, hcs⟩ := h.sl.at (List.getElem?_eq_getElem hn)
  have y0 := hcs.get 0 rfl
  simp only [TU32, Nat.mul_one, Nat.add_zero, Nat.zero_add] at y0
  exact ⟨_, hy, y0⟩

/-- What holds while a row is mixed in. -/
structure MixI (c : Col) (w : World) (q mb ib hb kh : Nat) (pre post : List Value) (S : ByteArray) (pos g cap : Nat) (R : List Nat) (cr : Col) (wr : World) : Prop where
  it : ItAt cr wr ib (q + 3) S pos
  row : Own TU32 269 cr (q + 2) 0 wr (.slice (some ⟨g, 0, none⟩) 16 cap) R
  m : Wds cr wr mb q 16
  b : BlkI c w q (mb + 1) hb kh pre post cr wr

theorem MixI.vst {c : Col} {w : World} {q mb ib hb kh : Nat} {pre post : List Value} {S : ByteArray} {pos g cap : Nat} {R : List Nat} {cr c' : Col} {wr w' : World} (h : MixI c w q mb ib hb kh pre post S pos g cap R cr wr) (hk : kh < q) (v : Wds c' w' (mb + 1) (q + 1) 16) (s : Step (One (q + 1)) cr wr c' w') (ok : Ok c' w') : MixI c w q mb ib hb kh pre post S pos g cap R c' w' :=
  ⟨h.it.keep s (show ¬ q + 3 = q + 1 by omega), h.row.keep s (show ¬ q + 2 = q + 1 by omega) (show ¬ 0 = q + 1 by omega), h.m.keep s (show ¬ q = q + 1 by omega), h.b.vst s hk v ok⟩
theorem MixI.drew {c : Col} {w : World} {q mb ib hb kh : Nat} {pre post : List Value} {S : ByteArray} {pos g cap : Nat} {R : List Nat} {cr : Col} {wr : World} (h : MixI c w q mb ib hb kh pre post S pos g cap R cr wr) : MixI c w q mb ib hb kh pre post S pos g cap R cr wr.drew :=
  ⟨h.it.keep (Step.rf.drewN (K := No) 1) (fun h => h), h.row.kn (Step.rf.drewN 1), h.m.drewN 1, h.b.no (Step.rf.drewN 1) (h.b.ok.drewN 1)⟩

section
variable {c : Col} {w : World}

set_option maxRecDepth 100000 in
set_option maxHeartbeats 3200000 in
theorem block_any (hok : Ok c w) {hb kh : Nat} {pre post : List Value} {o : Nat} (ho : pre.length = o) (hh : WdsM c w hb kh pre post 8) (hkh : kh ≠ 0) {v : Value} {l : List UInt8} {kx : Nat} (hv : Sl TByte c kx 0 w v l) (hkx : kx ≠ kh) (hl : l.length = 64) (many : Int) (last : Bool) :
    Calls Tryz.prog 205 #[.pointer (some ⟨hb, o, none⟩), v, .int .i64 many, .bool last] w fun r w' => r = .returned (.tuple #[]) ∧ ∃ c', WdsM c' w' hb kh pre post 8 ∧ Step (One kh) c w c' w' ∧ Ok c' w' := by
  obtain ⟨q, hq, hqc⟩ := hok.top (kh + kx)
  have hq0 : q ≠ 0 := by omega
  obtain ⟨am, om, sm⟩ := newAt hok (u32C (List.replicate 16 0)) 284 q
  obtain ⟨av, ov, sv⟩ := newAt om (u32C (List.replicate 16 0)) 284 (q + 1)
  rw [World.size_alloc] at av ov sv
  have hz16 : ∀ x ∈ List.replicate 16 0, x < 4294967296 := by intro x hx; simp at hx; omega
  have hm1 : Wds _ _ w.heap.size q 16 := ⟨_, by simp, hz16, am.keep sv (fun h => h)⟩
  have hv1 : Wds _ _ (w.heap.size + 1) (q + 1) 16 := ⟨_, by simp, hz16, av⟩
  have hI : BlkI c w q (w.heap.size + 1) hb kh pre post _ _ := ⟨hv1, (hh.keep sm (fun h => h)).keep sv (fun h => h), (sm.trans sv).ofNo, ov⟩
  have hb1 := (hv.kn sm).kn sv
  obtain ⟨g, off, cap, rfl, hcap, hcm⟩ := hv.some (by omega)
  obtain ⟨mb, hmb⟩ : ∃ b, w.heap.size = b := ⟨_, rfl⟩
  rw [hmb] at hm1 hv1 hI hb1
  rw [hl] at hb1 hcap ⊢
  have X0 := Lib.hid (And.intro hm1 (And.intro hI hb1))
  clear am om sm av ov sv hm1 hv1 hI hb1 hv hh hz16
  go_enter Tryz.func205, Tryz.ntmps205
  go_wp2_with fail
  (try rw [hmb])
  go_loopw [20] (fun vi wr => ∃ (i : Nat) (cr : Col), i ≤ 16 ∧ vi = .int .i64 i ∧ Wds cr wr mb q 16 ∧ BlkI c w q (mb + 1) hb kh pre post cr wr ∧ Sl TByte cr kx 0 wr (.slice (some ⟨g, off, none⟩) 64 cap) l) (fun vi _ => 16 - (intOf vi).toNat)
  case atStart => exact ⟨0, _, by omega, rfl, X0.out⟩
  case round =>
    obtain ⟨i, cr, hi, rfl, m1, I1, b1⟩ := hrel
    have XR := Lib.hid (And.intro m1 (And.intro I1 b1))
    clear m1 I1 b1
    by_cases hlt : i < 16
    · have e1 : IntKind.i64.wrap (4 * (i : Int)) = ((4 * i : Nat) : Int) := by rw [IntWalk.i64_in _ (by omega)]; omega
      have e2 : IntKind.i64.wrap (((4 * i : Nat) : Int) + 4) = ((4 * i + 4 : Nat) : Int) := by rw [IntWalk.i64_in _ (by omega)]; omega
      have hlt' : (i : Int) < 16 := by omega
      go_wp2_with fail
      rw [Nat.add_sub_cancel_left (4 * i) 4]
      go_loopw [31] (fun vk wr2 => ∃ (k : Nat) (c2 : Col), k ≤ 4 ∧ vk = .int .i64 k ∧ Wds c2 wr2 mb q 16 ∧ BlkI c w q (mb + 1) hb kh pre post c2 wr2 ∧ Sl TByte c2 kx 0 wr2 (.slice (some ⟨g, off, none⟩) 64 cap) l) (fun vk _ => 4 - (intOf vk).toNat)
      case atStart => exact ⟨0, _, by omega, rfl, XR.out⟩
      case round =>
        clear XR
        obtain ⟨k, c2, hk, rfl, m2, I2, b2⟩ := hrel
        by_cases hkl : k < 4
        · obtain ⟨x, hx⟩ : ∃ x, l[4 * i + k]? = some x := ⟨l[4 * i + k]'(by omega), by rw [List.getElem?_eq_getElem]⟩
          obtain ⟨vs, rfl, hcs⟩ := b2.at hx
          have y0 := hcs.get 0 rfl
          simp only [TByte, Nat.mul_one, Nat.add_zero, ← Nat.add_assoc] at y0
          obtain ⟨z, hz, yz⟩ := m2.cell hlt
          have yf := I2.ok.soft mb i (by rw [m2.col]; exact hq0)
          have hk0 : (0 : Int) ≤ (k : Int) := by omega
          have hk4 : (k : Int) < 4 := by omega
          have hw8 : IntKind.i64.wrap (8 * (k : Int)) = 8 * (k : Int) := IntWalk.i64_in _ (by omega)
          have h80 : (0 : Int) ≤ 8 * (k : Int) := by omega
          have K7 : (fun W : World => W.cell? ⟨mb, i, none⟩ = some (.int .u32 z) ∧ W.frozen? ⟨mb, i, none⟩ = false) wr.drew := ⟨yz, yf⟩
          have X2 := Lib.hid (And.intro m2 (And.intro I2 b2))
          clear m2 I2 b2 hcs yz yf
          go_wp2_with fail
          refine region_planM (fun W => W.cell? ⟨mb, i, none⟩ = some (.int .u32 z) ∧ W.frozen? ⟨mb, i, none⟩ = false) (fun i => !([10] : List Nat).contains i) (by kernel_rfl) ?_
          refine tk2 0 _ 36 rfl rfl K7 ?_
          refine tk2 1 _ 37 rfl rfl K7 ?_
          refine tk2 2 _ 38 rfl rfl K7 ?_
          refine tk2 3 _ 39 rfl rfl K7 ?_
          refine tk2 4 _ 40 rfl rfl K7 ?_
          refine tk2 5 _ 41 rfl rfl K7 ?_
          refine tk2 6 _ 42 rfl rfl K7 ?_
          refine tk2 7 _ 43 rfl rfl K7 ?_
          refine tk2 8 _ 44 rfl rfl K7 ?_
          refine tk2 9 _ 45 rfl rfl K7 ?_
          refine wpAnyM.one (i := 10) (by kernel_rfl) rfl (fun KQ hK => ?_)
          go_simp
          refine hK.out _ _ (fun h => absurd h (by decide)) ?_
          clear hK KQ
          (try simp only [Act.put, List.setIfInBounds_toArray, List.set_cons_zero, List.set_cons_succ])
          refine wpAnyM.done (by kernel_rfl) ?_ _
          clear K7
          go_wp2_with fail
          go_roundw
          case rel =>
            obtain ⟨m2, I2, b2⟩ := X2.out
            obtain ⟨y, hy, ey⟩ := or32 z ((x.toNat : Int) % 4294967296 * 2 ^ (8 * k)) hz
            rw [ey]
            have s1 : Step (One q) c2 wr c2 (wr.setCell ⟨mb, i, none⟩ (.int .u32 y)).drew := ((Step.refl (K := One q)).setCell (a := ⟨mb, i, none⟩) (.inr m2.col) _).drew
            exact ⟨k + 1, c2, by omega, by go_num, (m2.set hlt y hy).drewN 1, I2.go s1 (Nat.le_refl _) (by omega) (by omega) (I2.ok.setCell _ _).drew, b2.keep s1 (show ¬ kx = q by omega) (show ¬ 0 = q by omega)⟩
          case measure => simp [intOf]; omega
        · have hk4 : k = 4 := by omega
          subst hk4
          have X2 := Lib.hid (And.intro m2 (And.intro I2 b2))
          clear m2 I2 b2
          go_wp2_with fail
          go_roundw
          case rel => exact ⟨i + 1, c2, by omega, by go_num, X2.out⟩
          case measure => simp [intOf]; omega
    · have hi16 : i = 16 := by omega
      subst hi16
      have B := begin_any XR.out.2.1.ok
      go_wp2_with fail
      with_reducible refine B.mono ?_
      rintro e w3 ⟨rfl, c3, s3, o3⟩
      have hB1 := u32C_one beginL
      have hBl : (u32C beginL).length = 8 := rfl
      obtain ⟨a4, o4, s4⟩ := newAt o3 (u32C (List.replicate 8 0)) 271 q
      rw [show (u32C (List.replicate 8 0)).toArray = #[.int .u32 0, .int .u32 0, .int .u32 0, .int .u32 0, .int .u32 0, .int .u32 0, .int .u32 0, .int .u32 0] from rfl] at a4 o4 s4
      obtain ⟨W4, hW4⟩ : ∃ W4, w3.alloc (.cells #[.int .u32 0, .int .u32 0, .int .u32 0, .int .u32 0, .int .u32 0, .int .u32 0, .int .u32 0, .int .u32 0] 271) = W4 := ⟨_, rfl⟩
      rw [hW4] at a4 o4 s4
      obtain ⟨c4, hc4⟩ : ∃ c4, c3.put w3.heap.size q = c4 := ⟨_, rfl⟩
      rw [hc4] at a4 o4 s4
      obtain ⟨sb, hsb⟩ : ∃ sb, w3.heap.size = sb := ⟨_, rfl⟩
      rw [hsb] at a4
      have hi1 : (Tryz.prog.info? 271).map (·.size) = some (u32C beginL).length := by rw [info_words, hBl]
      have hi2 : (Tryz.prog.info? 271).map (·.size) = some (u32C beginL).toArray.size := by rw [info_words]; rfl
      obtain ⟨S0, a5⟩ := a4.st o4 hq0 (ty := 271) (us := u32C beginL) rfl hi1 hB1
      have ht0 := a4.there (o := 0) (n := (u32C beginL).toArray.size) o4 hq0 (by decide)
      have hB2 := all_oneCell_toArray hB1
      have s5 : Step (One q) c4 W4 c4 (W4.setCells sb 0 (u32C beginL)) := Step.setCells (.inr a4.col) _ _ _ Step.refl
      have o5 := Ok.setCells (b := sb) (u32C beginL) 0 _ o4
      have I5 := ((XR.out.2.1.no s3 o3).no s4 o4).go s5 (Nat.le_refl _) (by omega) (by omega) o5
      have m5 := ((XR.out.1.keep s3 (fun h => h)).keep s4 (fun h => h))
      have hmsb : mb ≠ sb := by have := (XR.out.1.keep s3 (fun h => h)).lt; omega
      have m6 : Wds c4 (W4.setCells sb 0 (u32C beginL)) mb q 16 := by obtain ⟨lm, h1, h2, h3⟩ := m5.at_; exact ⟨lm, h1, h2, h3.off _ _ _ hmsb⟩
      have st5 : Wds c4 (W4.setCells sb 0 (u32C beginL)) sb q 8 := ⟨beginL, rfl, by decide, a5⟩
      obtain ⟨B, hB⟩ : ∃ B, u32C beginL = B := ⟨_, rfl⟩
      rw [hB] at ht0 hi2 hB2 I5 m6 st5 ⊢
      have SH := Lib.hid (And.intro ht0 (And.intro hi2 hB2))
      obtain ⟨W5, hW5⟩ : ∃ W5, W4.setCells sb 0 B = W5 := ⟨_, rfl⟩
      rw [hW5] at I5 m6 st5
      have X5 := Lib.hid (And.intro m6 (And.intro I5 st5))
      clear a4 o4 s4 hB1 hBl hi1 hi2 S0 a5 ht0 hB2 s5 o5 I5 m5 m6 st5 s3 o3 XR X0
      go_wp2_with (first | (refine wpList_store_mid rfl 271 _ _ rfl sb 0 B.toArray rfl rfl SH.out.1 SH.out.2.1 SH.out.2.2 ?_))
      rw [hW5]
      have D5 : Hid (Wds c4 W5.drew mb q 16 ∧ BlkI c w q (mb + 1) hb kh pre post c4 W5.drew ∧ Wds c4 W5.drew sb q 8) := Lib.hid ⟨X5.out.1.drewN 1, X5.out.2.1.no (Step.rf.drewN 1) (X5.out.2.1.ok.drewN 1), X5.out.2.2.drewN 1⟩
      obtain ⟨lh, hlh, hlx, src⟩ := D5.out.2.1.h.src
      rw [ho] at src
      obtain ⟨th, I7⟩ := D5.out.2.1.vsets (by omega) (o := 0) hlx (by omega)
      have hvs : ∀ j, j ≠ mb + 1 → ∀ k, Wds c4 W5.drew j k 16 → Wds c4 (W5.drew.setCells (mb + 1) 0 (u32C lh)) j k 16 := fun j hj k h => by obtain ⟨l, h1, h2, h3⟩ := h.at_; exact ⟨l, h1, h2, h3.off _ _ _ hj⟩
      have hvs8 : ∀ j, j ≠ mb + 1 → ∀ k, Wds c4 W5.drew j k 8 → Wds c4 (W5.drew.setCells (mb + 1) 0 (u32C lh)) j k 8 := fun j hj k h => by obtain ⟨l, h1, h2, h3⟩ := h.at_; exact ⟨l, h1, h2, h3.off _ _ _ hj⟩
      have hsbv : sb ≠ mb + 1 := fun e => by have e1 := D5.out.2.1.v.col; have e2 := D5.out.2.2.col; rw [← e] at e1; omega
      have X7 := Lib.hid (And.intro (hvs mb (by omega) q D5.out.1) (And.intro I7 (hvs8 sb hsbv q D5.out.2.2)))
      obtain ⟨B1, hB1⟩ : ∃ B, u32C lh = B := ⟨_, rfl⟩
      have hBo : ∀ v ∈ B1, v.oneCell' = true := by rw [← hB1]; exact u32C_one _
      have hBl : B1.length = 8 := by rw [← hB1, u32C_len, hlh]
      rw [hB1] at src th X7
      have XC := Lib.hid (And.intro src (And.intro th (And.intro hBo hBl)))
      clear src th I7 hBo hBl hvs hvs8 hB1 hlh hlx D5 lh X5 SH
      have K11 : (fun _ : World => True) W5.drew := trivial
      have hs1 := fun W => run_v8h W (mb + 1)
      have hs2 := fun W => run_w8 W hb o
      refine region_planM (fun W => True) (fun _ => true) (by kernel_rfl) ?_
      refine tk0 0 _ 49 rfl rfl K11 ?_
      refine tk0 1 _ 50 rfl rfl K11 ?_
      refine tk0 2 _ 51 rfl rfl K11 ?_
      refine tk0 3 _ 52 rfl rfl K11 ?_
      refine wpAnyM.one (i := 4) (by kernel_rfl) rfl (fun KQ hK => ?_)
      refine step_copy (dd := some 53) rfl rfl _ _ _ _ rfl 269 Tryz.underlying285 infoU32s (mb + 1) 0 8 16 ⟨hb, o, none⟩ 8 8 rfl rfl B1 XC.out.2.2.2 XC.out.1 XC.out.2.1 XC.out.2.2.1 ?_
      refine hK.out _ _ (fun _ => trivial) ?_
      clear hK KQ
      (try simp only [Act.put, List.setIfInBounds_toArray, List.set_cons_zero, List.set_cons_succ])
      refine wpAnyM.done (by kernel_rfl) ?_ _
      clear K11 hs1 hs2 XC
      go_wp2_with fail
      have D6 : Hid (Wds c4 (W5.drew.setCells (mb + 1) 0 B1).drew mb q 16 ∧ BlkI c w q (mb + 1) hb kh pre post c4 (W5.drew.setCells (mb + 1) 0 B1).drew ∧ Wds c4 (W5.drew.setCells (mb + 1) 0 B1).drew sb q 8) := Lib.hid ⟨X7.out.1.drewN 1, X7.out.2.1.no (Step.rf.drewN 1) (X7.out.2.1.ok.drewN 1), X7.out.2.2.drewN 1⟩
      clear X7
      obtain ⟨W6, hW6⟩ : ∃ W6, (W5.drew.setCells (mb + 1) 0 B1).drew = W6 := ⟨_, rfl⟩
      rw [hW6] at D6
      obtain ⟨lh, hlh, hlx, src⟩ := D6.out.2.2.mid.src
      obtain ⟨th, I7⟩ := D6.out.2.1.vsets (by omega) (o := 8) hlx (by omega)
      have hvs : ∀ j, j ≠ mb + 1 → ∀ k, Wds c4 W6 j k 16 → Wds c4 (W6.setCells (mb + 1) 8 (u32C lh)) j k 16 := fun j hj k h => by obtain ⟨l, h1, h2, h3⟩ := h.at_; exact ⟨l, h1, h2, h3.off _ _ _ hj⟩
      have X7 := Lib.hid (And.intro (hvs mb (by omega) q D6.out.1) I7)
      obtain ⟨B2, hB2⟩ : ∃ B, u32C lh = B := ⟨_, rfl⟩
      have hBo : ∀ v ∈ B2, v.oneCell' = true := by rw [← hB2]; exact u32C_one _
      have hBl : B2.length = 8 := by rw [← hB2, u32C_len, hlh]
      rw [hB2] at src th X7
      have XC := Lib.hid (And.intro src (And.intro th (And.intro hBo hBl)))
      rw [← hW6] at XC X7
      clear src th I7 hBo hBl hvs hB2 hlh hlx D6 lh
      have K11 : (fun _ : World => True) (W5.drew.setCells (mb + 1) 0 B1).drew := trivial
      have hs1 := fun W => run_v8l W (mb + 1)
      have hs2 := fun W => run_w8 W sb 0
      refine region_planM (fun W => True) (fun _ => true) (by kernel_rfl) ?_
      refine tk0 0 _ 54 rfl rfl K11 ?_
      refine tk0 1 _ 55 rfl rfl K11 ?_
      refine wpAnyM.one (i := 2) (by kernel_rfl) rfl (fun KQ hK => ?_)
      refine step_copy (dd := some 56) rfl rfl _ _ _ _ rfl 269 Tryz.underlying285 infoU32s (mb + 1) 8 8 8 ⟨sb, 0, none⟩ 8 8 rfl rfl B2 XC.out.2.2.2 XC.out.1 XC.out.2.1 XC.out.2.2.1 ?_
      refine hK.out _ _ (fun _ => trivial) ?_
      clear hK KQ
      (try simp only [Act.put, List.setIfInBounds_toArray, List.set_cons_zero, List.set_cons_succ])
      refine wpAnyM.done (by kernel_rfl) ?_ _
      clear K11 hs1 hs2 XC
      obtain ⟨W7, hW7⟩ : ∃ W7, (W5.drew.setCells (mb + 1) 0 B1).drew.setCells (mb + 1) 8 B2 = W7 := ⟨_, rfl⟩
      rw [hW7] at X7 ⊢
      obtain ⟨z12, hz12, y12⟩ := X7.out.2.v.cell (i := 12) (by omega)
      have yf12 := X7.out.2.ok.soft (mb + 1) 12 (by rw [X7.out.2.v.col]; omega)
      obtain ⟨z13, hz13, y13⟩ := X7.out.2.v.cell (i := 13) (by omega)
      have yf13 := X7.out.2.ok.soft (mb + 1) 13 (by rw [X7.out.2.v.col]; omega)
      obtain ⟨z14, hz14, y14⟩ := X7.out.2.v.cell (i := 14) (by omega)
      have yf14 := X7.out.2.ok.soft (mb + 1) 14 (by rw [X7.out.2.v.col]; omega)
      obtain ⟨x12, hx12, e12⟩ := xorm32 z12 many hz12
      obtain ⟨x13, hx13, e13⟩ := xorm32 z13 (IntKind.u64.wrap many / 4294967296) hz13
      have I8 := (X7.out.2.vset (by omega) (i := 12) (by omega) hx12).vset (by omega) (i := 13) (by omega) hx13
      have m8 := (X7.out.1.off (b' := mb + 1) (o := 12) (u := .int .u32 x12) (by omega)).off (b' := mb + 1) (o := 13) (u := .int .u32 x13) (by omega)
      have X8 := Lib.hid (And.intro m8 I8)
      have E8 := Lib.hid (And.intro e12 e13)
      clear e12 e13 I8 m8
      go_upto_if 71 with (fail)
      rw [E8.out.1, E8.out.2]
      clear X7 y12 yf12 y13 yf13 y14 yf14 E8
      obtain ⟨W8, hW8⟩ : ∃ W8, (W7.setCell ⟨mb + 1, 12, none⟩ (.int .u32 x12)).setCell ⟨mb + 1, 13, none⟩ (.int .u32 x13) = W8 := ⟨_, rfl⟩
      rw [hW8] at X8 ⊢
      go_cut [] from 20 to 75 (fun wr => Wds c4 wr mb q 16 ∧ BlkI c w q (mb + 1) hb kh pre post c4 wr)
      case first =>
        obtain ⟨z14, hz14, y14⟩ := X8.out.2.v.cell (i := 14) (by omega)
        have yf14 := X8.out.2.ok.soft (mb + 1) 14 (by rw [X8.out.2.v.col]; omega)
        rcases last with _ | _
        · go_wp2_with fail
          go_meet
          case rel => exact X8.out
        · go_wp2_with fail
          go_meet
          case rel =>
            obtain ⟨y, hy, ey⟩ := not32 z14 hz14
            rw [ey]
            exact ⟨X8.out.1.off (b' := mb + 1) (by omega), X8.out.2.vset (by omega) (i := 14) (by omega) hy⟩
      case rest =>
        clear X8 W8 hW8 W7 hW7
        obtain ⟨m8, I8⟩ := hcut
        obtain ⟨S, hS⟩ : ∃ S, rowsB = S := ⟨_, rfl⟩
        obtain ⟨D, hD⟩ : ∃ D, digB = D := ⟨_, rfl⟩
        have hSl : (⟨#[48, 49, 50, 51, 52, 53, 54, 55, 56, 57, 97, 98, 99, 100, 101, 102, 101, 97, 52, 56, 57, 102, 100, 54, 49, 99, 48, 50, 98, 55, 53, 51, 98, 56, 99, 48, 53, 50, 102, 100, 97, 101, 51, 54, 55, 49, 57, 52, 55, 57, 51, 49, 100, 99, 98, 101, 50, 54, 53, 97, 52, 48, 102, 56, 57, 48, 53, 55, 50, 52, 97, 102, 101, 49, 98, 99, 54, 56, 51, 100, 50, 99, 54, 97, 48, 98, 56, 51, 52, 100, 55, 53, 102, 101, 49, 57, 99, 53, 49, 102, 101, 100, 52, 97, 48, 55, 54, 51, 57, 50, 56, 98, 100, 98, 55, 101, 99, 49, 51, 57, 53, 48, 102, 52, 56, 54, 50, 97, 54, 102, 101, 57, 98, 51, 48, 56, 99, 50, 100, 55, 49, 52, 97, 53, 97, 50, 56, 52, 55, 54, 49, 53, 102, 98, 57, 101, 51, 99, 100, 48]⟩ : ByteArray) = S := hS
        have hDl : (⟨#[48, 49, 50, 51, 52, 53, 54, 55, 56, 57, 97, 98, 99, 100, 101, 102]⟩ : ByteArray) = D := hD
        have hSz : S.size = 160 := by rw [← hS]; rfl
        have hRow : ∀ (p : Nat) (h : p < S.size), (S[p]'h).toNat < 128 ∧ ∃ j : Nat, j < 16 ∧ Go.Lib.indexByte D.data.toList (((S[p]'h).toNat : Int)).toNat.toUInt8 = (j : Int) := by subst hS hD; exact rows_ok
        obtain ⟨it8, o8, s8⟩ := ItAt.new I8.ok S (q + 3)
        have X8 := Lib.hid (And.intro it8 (And.intro (m8.keep s8 (fun h => h)) (I8.no s8 o8)))
        have HR := Lib.hid (And.intro hSz hRow)
        clear it8 o8 s8 m8 I8 hS hD hSz hRow
        go_wp2_with fail
        (try rw [hSl])
        obtain ⟨ib, hib⟩ : ∃ b, wc.heap.size = b := ⟨_, rfl⟩
        rw [hib] at X8 ⊢
        go_loopw [14] (fun rv wr => ∃ (pos : Nat) (cr : Col) (row : List Nat), pos ≤ 160 ∧ ItAt cr wr ib (q + 3) S pos ∧ Own TU32 269 cr (q + 2) 0 wr rv row ∧ row.length < 16 ∧ Wds cr wr mb q 16 ∧ BlkI c w q (mb + 1) hb kh pre post cr wr) (fun _ wr => 160 - wr.iterPos ib)
        case atStart => exact ⟨0, _, [], by omega, X8.out.1, Own.nil _ _ _ _ _ _, by decide, X8.out.2⟩
        case round =>
          obtain ⟨pos, cr, row, hpos, it, ow, hrl, m1, I1⟩ := hrel
          clear X8
          by_cases hlt : pos < 160
          · have hlt' : pos < S.size := by rw [HR.out.1]; exact hlt
            obtain ⟨ha, j, hj, hix⟩ := HR.out.2 pos hlt'
            have hnx : ∀ ty, (Instr.next (.pointer (some ⟨ib, 0, none⟩)) true ty).run Tryz.prog wr = _ := fun ty => Go.Lib.run_next_ascii_at wr ib S pos ty it.it hlt' ha
            obtain ⟨b, hb0⟩ : ∃ b, S[pos]'hlt' = b := ⟨_, rfl⟩
            rw [hb0] at hnx ha hix
            obtain ⟨it2, o2, s2⟩ := it.move I1.ok (pos + 1)
            obtain ⟨W2, hW2⟩ : ∃ W, wr.iterAt ib S (pos + 1) = W := ⟨_, rfl⟩
            rw [hW2] at it2 o2 s2 hnx
            have m2 := m1.keep s2 (show ¬ q = q + 3 by omega)
            have I2 := I1.go s2 (by omega) (by omega) (by omega) o2
            have ow2 := ow.keep s2 (show ¬ q + 2 = q + 3 by omega) (show ¬ 0 = q + 3 by omega)
            have hpw : wr.iterPos ib = pos := by unfold World.iterPos; rw [it.it]
            clear it ow m1 I1 o2 s2
            obtain ⟨x, hx, yx⟩ := m2.cell hj
            have IR := indexRune_any D (b.toNat : Int) (by omega) (by omega) W2
            rw [hix] at IR
            obtain ⟨va, vc, rfl, _⟩ := ow2.sl.form
            go_wp2_with fail
            with_reducible refine IR.mono ?_
            rintro e w3 ⟨rfl, rfl⟩
            obtain ⟨p1, p2, p3⟩ := put_one (T := TU32) (x := x) (vs := [.int .u32 x]) (k2 := 0) I2.ok ⟨rfl, hx⟩ 269
            have X2 := Lib.hid (And.intro (it2.keep p3 (fun h => h)) (And.intro (m2.keep p3 (fun h => h)) (I2.no p3 p1)))
            have ow3 := ow2.kn p3
            have hml : row.length + [x].length ≤ maxLen := by simp [maxLen]; omega
            have hbl : (row.length + [x].length) * 4 ≤ 140737488355328 := by simp; omega
            have hq1 : 0 ≠ q + 2 := by omega
            have HW := Lib.hid hpw
            clear IR it2 m2 I2 ow2 hnx hix hpw
            by_cases hrs : row.length < 15
            · have hlt2 : (row.length : Int) + 1 < 16 := by omega
              go_wp2_with (at_builtin; refine wpList_app TU32 p1 rfl _ _ 285 rfl 269 Tryz.underlying285 infoU32 rfl (by decide) rfl rfl ow3 p2 hq1 hml hbl ?_; rintro v6 w6 c6 b1 b2 b3 -; obtain ⟨va6, vc6, rfl, _⟩ := b1.sl.form; rw [show (row ++ [x]).length = row.length + 1 by simp] at b1 ⊢; have X6 := Lib.hid (And.intro b1 (And.intro b2 b3)); clear b1 b2 b3 ow3 p1 p2 p3)
              go_roundw
              case rel =>
                obtain ⟨b1, b2, b3⟩ := X6.out
                obtain ⟨it2, m2, I2⟩ := X2.out
                exact ⟨pos + 1, c6, row ++ [x], by omega, it2.keep b2 (show ¬ q + 3 = q + 2 by omega), by simpa using b1, by simp; omega, m2.keep b2 (show ¬ q = q + 2 by omega), I2.go b2 (by omega) (by omega) (by omega) b3⟩
              case measure =>
                obtain ⟨b1, b2, b3⟩ := X6.out
                have e1 : w6.iterPos ib = pos + 1 := by unfold World.iterPos; rw [(X2.out.1.keep b2 (show ¬ q + 3 = q + 2 by omega)).it]
                rw [HW.out, e1]; omega
            · have hr15 : row.length = 15 := by omega
              obtain ⟨R, hR⟩ : ∃ R, row ++ [x] = R := ⟨_, rfl⟩
              have hRl : R.length = 16 := by rw [← hR]; simp [hr15]
              have HRl := Lib.hid hRl
              clear hr15 hRl
              go_wp2_with (at_builtin; refine wpList_app TU32 p1 rfl _ _ 285 rfl 269 Tryz.underlying285 infoU32 rfl (by decide) rfl rfl ow3 p2 hq1 hml hbl ?_; rintro v6 w6 c6 b1 b2 b3 -; rw [hR] at b1; obtain ⟨va6, vc6, rfl, _⟩ := b1.sl.form; rw [HRl.out] at b1 ⊢; have X6 := Lib.hid (And.intro b1 (And.intro b2 b3)); clear b1 b2 b3 ow3 p1 p2 p3)
              obtain ⟨g2, rfl⟩ : ∃ g2, va6 = some ⟨g2, 0, none⟩ := by
                rcases X6.out.1.form2 with ⟨e, _⟩ | ⟨g2, cap2, e, _⟩
                · cases e
                · injection e with e1 _ _; exact ⟨g2, e1⟩
              have I6 : MixI c w q mb ib hb kh pre post S (pos + 1) g2 vc6 R c6 w6 := by
                obtain ⟨b1, b2, b3⟩ := X6.out
                obtain ⟨it2, m2, I2⟩ := X2.out
                exact ⟨it2.keep b2 (show ¬ q + 3 = q + 2 by omega), b1, m2.keep b2 (show ¬ q = q + 2 by omega), I2.go b2 (by omega) (by omega) (by omega) b3⟩
              have XI6 := Lib.hid I6
              clear I6 X6 X2 hR hml hbl hrs
              go_loopw [90] (fun vi wr => ∃ (i : Nat) (cr : Col), i ≤ 4 ∧ vi = .int .i64 i ∧ MixI c w q mb ib hb kh pre post S (pos + 1) g2 vc6 R cr wr) (fun vi _ => 4 - (intOf vi).toNat)
              case atStart => exact ⟨0, c6, by omega, rfl, XI6.out⟩
              case round =>
                clear XI6
                obtain ⟨i, cr, hi, rfl, I⟩ := hrel
                have hgc : cr g2 = q + 2 := by obtain ⟨_, _, _, _, _, hcol⟩ := I.row; exact hcol g2 rfl
                have hgl : g2 < wr.drew.heap.size := I.b.ok.lt (by rw [hgc]; omega)
                rcases (by omega : i = 0 ∨ i = 1 ∨ i = 2 ∨ i = 3 ∨ i = 4) with rfl | rfl | rfl | rfl | rfl
                · obtain ⟨x1, hx1, y1⟩ := own_word I.row (n := 0) (by rw [HRl.out]; omega)
                  obtain ⟨x2, hx2, y2⟩ := own_word I.row (n := 1) (by rw [HRl.out]; omega)
                  have hw0 : IntKind.i64.wrap 0 = 0 := IntWalk.i64_in _ (by omega)
                  have hw1 : IntKind.i64.wrap 1 = 1 := IntWalk.i64_in _ (by omega)
                  have KM : (fun W : World => W.cell? ⟨g2, 0, none⟩ = some (.int .u32 x1) ∧ W.cell? ⟨g2, 1, none⟩ = some (.int .u32 x2)) wr.drew := ⟨y1, y2⟩
                  have XI := Lib.hid I.drew
                  clear I
                  go_wp2_with fail
                  refine region_planM (fun W => W.cell? ⟨g2, 0, none⟩ = some (.int .u32 x1) ∧ W.cell? ⟨g2, 1, none⟩ = some (.int .u32 x2)) (fun _ => true) (by kernel_rfl) ?_
                  refine tk2 0 _ 93 rfl rfl KM ?_
                  refine tk2 1 _ 94 rfl rfl KM ?_
                  refine tk2 2 _ 95 rfl rfl KM ?_
                  refine tk2 3 _ 96 rfl rfl KM ?_
                  refine tk2 4 _ 97 rfl rfl KM ?_
                  refine tk2 5 _ 98 rfl rfl KM ?_
                  refine tk2 6 _ 99 rfl rfl KM ?_
                  refine tk2 7 _ 100 rfl rfl KM ?_
                  refine tk2 8 _ 101 rfl rfl KM ?_
                  refine tk2 9 _ 102 rfl rfl KM ?_
                  refine tk2 10 _ 103 rfl rfl KM ?_
                  refine tk2 11 _ 104 rfl rfl KM ?_
                  refine tk2 12 _ 105 rfl rfl KM ?_
                  refine tk2 13 _ 106 rfl rfl KM ?_
                  refine tk2 14 _ 107 rfl rfl KM ?_
                  refine tk2 15 _ 108 rfl rfl KM ?_
                  refine tk2 16 _ 109 rfl rfl KM ?_
                  refine tk2 17 _ 110 rfl rfl KM ?_
                  refine tk2 18 _ 111 rfl rfl KM ?_
                  refine tk2 19 _ 112 rfl rfl KM ?_
                  refine tk2 20 _ 113 rfl rfl KM ?_
                  refine tk2 21 _ 114 rfl rfl KM ?_
                  refine tk2 22 _ 115 rfl rfl KM ?_
                  refine wpAnyM.one (i := 23) (by kernel_rfl) rfl (fun KQ hK => ?_)
                  go_simp
                  refine (mix_any XI.out.b.ok XI.out.b.v (by omega) 0 4 8 12 (by omega) (by omega) (by omega) (by omega) x1 x2 hx1 hx2).mono ?_
                  rintro r w7 ⟨rfl, c7, v7, s7, o7⟩
                  have I7 := XI.out.vst (by omega) v7 s7 o7
                  have XI7 := Lib.hid I7
                  have KM : (fun W : World => W.cell? ⟨g2, 0, none⟩ = some (.int .u32 x1) ∧ W.cell? ⟨g2, 1, none⟩ = some (.int .u32 x2)) w7 := ⟨(s7.cell hgl (by rw [hgc]; show ¬ q + 2 = q + 1; omega)).trans y1, (s7.cell hgl (by rw [hgc]; show ¬ q + 2 = q + 1; omega)).trans y2⟩
                  clear v7 s7 o7 I7
                  go_simp
                  refine hK.out _ _ (fun _ => KM) ?_
                  clear hK KQ
                  (try simp only [Act.put, List.setIfInBounds_toArray, List.set_cons_zero, List.set_cons_succ])
                  refine wpAnyM.done (by kernel_rfl) ?_ _
                  go_wp2_with fail
                  go_roundw
                  case rel => first | exact ⟨1, c7, by omega, by first | rfl | go_num, XI7.out⟩ | exact ⟨1, by omega, by first | rfl | go_num, c7, XI7.out⟩
                  case measure => simp [intOf]
                · obtain ⟨x1, hx1, y1⟩ := own_word I.row (n := 2) (by rw [HRl.out]; omega)
                  obtain ⟨x2, hx2, y2⟩ := own_word I.row (n := 3) (by rw [HRl.out]; omega)
                  have hw2 : IntKind.i64.wrap 2 = 2 := IntWalk.i64_in _ (by omega)
                  have hw3 : IntKind.i64.wrap 3 = 3 := IntWalk.i64_in _ (by omega)
                  have KM : (fun W : World => W.cell? ⟨g2, 2, none⟩ = some (.int .u32 x1) ∧ W.cell? ⟨g2, 3, none⟩ = some (.int .u32 x2)) wr.drew := ⟨y1, y2⟩
                  have XI := Lib.hid I.drew
                  clear I
                  go_wp2_with fail
                  refine region_planM (fun W => W.cell? ⟨g2, 2, none⟩ = some (.int .u32 x1) ∧ W.cell? ⟨g2, 3, none⟩ = some (.int .u32 x2)) (fun _ => true) (by kernel_rfl) ?_
                  refine tk2 0 _ 93 rfl rfl KM ?_
                  refine tk2 1 _ 94 rfl rfl KM ?_
                  refine tk2 2 _ 95 rfl rfl KM ?_
                  refine tk2 3 _ 96 rfl rfl KM ?_
                  refine tk2 4 _ 97 rfl rfl KM ?_
                  refine tk2 5 _ 98 rfl rfl KM ?_
                  refine tk2 6 _ 99 rfl rfl KM ?_
                  refine tk2 7 _ 100 rfl rfl KM ?_
                  refine tk2 8 _ 101 rfl rfl KM ?_
                  refine tk2 9 _ 102 rfl rfl KM ?_
                  refine tk2 10 _ 103 rfl rfl KM ?_
                  refine tk2 11 _ 104 rfl rfl KM ?_
                  refine tk2 12 _ 105 rfl rfl KM ?_
                  refine tk2 13 _ 106 rfl rfl KM ?_
                  refine tk2 14 _ 107 rfl rfl KM ?_
                  refine tk2 15 _ 108 rfl rfl KM ?_
                  refine tk2 16 _ 109 rfl rfl KM ?_
                  refine tk2 17 _ 110 rfl rfl KM ?_
                  refine tk2 18 _ 111 rfl rfl KM ?_
                  refine tk2 19 _ 112 rfl rfl KM ?_
                  refine tk2 20 _ 113 rfl rfl KM ?_
                  refine tk2 21 _ 114 rfl rfl KM ?_
                  refine tk2 22 _ 115 rfl rfl KM ?_
                  refine wpAnyM.one (i := 23) (by kernel_rfl) rfl (fun KQ hK => ?_)
                  go_simp
                  refine (mix_any XI.out.b.ok XI.out.b.v (by omega) 1 5 9 13 (by omega) (by omega) (by omega) (by omega) x1 x2 hx1 hx2).mono ?_
                  rintro r w7 ⟨rfl, c7, v7, s7, o7⟩
                  have I7 := XI.out.vst (by omega) v7 s7 o7
                  have XI7 := Lib.hid I7
                  have KM : (fun W : World => W.cell? ⟨g2, 2, none⟩ = some (.int .u32 x1) ∧ W.cell? ⟨g2, 3, none⟩ = some (.int .u32 x2)) w7 := ⟨(s7.cell hgl (by rw [hgc]; show ¬ q + 2 = q + 1; omega)).trans y1, (s7.cell hgl (by rw [hgc]; show ¬ q + 2 = q + 1; omega)).trans y2⟩
                  clear v7 s7 o7 I7
                  go_simp
                  refine hK.out _ _ (fun _ => KM) ?_
                  clear hK KQ
                  (try simp only [Act.put, List.setIfInBounds_toArray, List.set_cons_zero, List.set_cons_succ])
                  refine wpAnyM.done (by kernel_rfl) ?_ _
                  go_wp2_with fail
                  go_roundw
                  case rel => first | exact ⟨2, c7, by omega, by first | rfl | go_num, XI7.out⟩ | exact ⟨2, by omega, by first | rfl | go_num, c7, XI7.out⟩
                  case measure => simp [intOf]
                · obtain ⟨x1, hx1, y1⟩ := own_word I.row (n := 4) (by rw [HRl.out]; omega)
                  obtain ⟨x2, hx2, y2⟩ := own_word I.row (n := 5) (by rw [HRl.out]; omega)
                  have hw4 : IntKind.i64.wrap 4 = 4 := IntWalk.i64_in _ (by omega)
                  have hw5 : IntKind.i64.wrap 5 = 5 := IntWalk.i64_in _ (by omega)
                  have KM : (fun W : World => W.cell? ⟨g2, 4, none⟩ = some (.int .u32 x1) ∧ W.cell? ⟨g2, 5, none⟩ = some (.int .u32 x2)) wr.drew := ⟨y1, y2⟩
                  have XI := Lib.hid I.drew
                  clear I
                  go_wp2_with fail
                  refine region_planM (fun W => W.cell? ⟨g2, 4, none⟩ = some (.int .u32 x1) ∧ W.cell? ⟨g2, 5, none⟩ = some (.int .u32 x2)) (fun _ => true) (by kernel_rfl) ?_
                  refine tk2 0 _ 93 rfl rfl KM ?_
                  refine tk2 1 _ 94 rfl rfl KM ?_
                  refine tk2 2 _ 95 rfl rfl KM ?_
                  refine tk2 3 _ 96 rfl rfl KM ?_
                  refine tk2 4 _ 97 rfl rfl KM ?_
                  refine tk2 5 _ 98 rfl rfl KM ?_
                  refine tk2 6 _ 99 rfl rfl KM ?_
                  refine tk2 7 _ 100 rfl rfl KM ?_
                  refine tk2 8 _ 101 rfl rfl KM ?_
                  refine tk2 9 _ 102 rfl rfl KM ?_
                  refine tk2 10 _ 103 rfl rfl KM ?_
                  refine tk2 11 _ 104 rfl rfl KM ?_
                  refine tk2 12 _ 105 rfl rfl KM ?_
                  refine tk2 13 _ 106 rfl rfl KM ?_
                  refine tk2 14 _ 107 rfl rfl KM ?_
                  refine tk2 15 _ 108 rfl rfl KM ?_
                  refine tk2 16 _ 109 rfl rfl KM ?_
                  refine tk2 17 _ 110 rfl rfl KM ?_
                  refine tk2 18 _ 111 rfl rfl KM ?_
                  refine tk2 19 _ 112 rfl rfl KM ?_
                  refine tk2 20 _ 113 rfl rfl KM ?_
                  refine tk2 21 _ 114 rfl rfl KM ?_
                  refine tk2 22 _ 115 rfl rfl KM ?_
                  refine wpAnyM.one (i := 23) (by kernel_rfl) rfl (fun KQ hK => ?_)
                  go_simp
                  refine (mix_any XI.out.b.ok XI.out.b.v (by omega) 2 6 10 14 (by omega) (by omega) (by omega) (by omega) x1 x2 hx1 hx2).mono ?_
                  rintro r w7 ⟨rfl, c7, v7, s7, o7⟩
                  have I7 := XI.out.vst (by omega) v7 s7 o7
                  have XI7 := Lib.hid I7
                  have KM : (fun W : World => W.cell? ⟨g2, 4, none⟩ = some (.int .u32 x1) ∧ W.cell? ⟨g2, 5, none⟩ = some (.int .u32 x2)) w7 := ⟨(s7.cell hgl (by rw [hgc]; show ¬ q + 2 = q + 1; omega)).trans y1, (s7.cell hgl (by rw [hgc]; show ¬ q + 2 = q + 1; omega)).trans y2⟩
                  clear v7 s7 o7 I7
                  go_simp
                  refine hK.out _ _ (fun _ => KM) ?_
                  clear hK KQ
                  (try simp only [Act.put, List.setIfInBounds_toArray, List.set_cons_zero, List.set_cons_succ])
                  refine wpAnyM.done (by kernel_rfl) ?_ _
                  go_wp2_with fail
                  go_roundw
                  case rel => first | exact ⟨3, c7, by omega, by first | rfl | go_num, XI7.out⟩ | exact ⟨3, by omega, by first | rfl | go_num, c7, XI7.out⟩
                  case measure => simp [intOf]
                · obtain ⟨x1, hx1, y1⟩ := own_word I.row (n := 6) (by rw [HRl.out]; omega)
                  obtain ⟨x2, hx2, y2⟩ := own_word I.row (n := 7) (by rw [HRl.out]; omega)
                  have hw6 : IntKind.i64.wrap 6 = 6 := IntWalk.i64_in _ (by omega)
                  have hw7 : IntKind.i64.wrap 7 = 7 := IntWalk.i64_in _ (by omega)
                  have KM : (fun W : World => W.cell? ⟨g2, 6, none⟩ = some (.int .u32 x1) ∧ W.cell? ⟨g2, 7, none⟩ = some (.int .u32 x2)) wr.drew := ⟨y1, y2⟩
                  have XI := Lib.hid I.drew
                  clear I
                  go_wp2_with fail
                  refine region_planM (fun W => W.cell? ⟨g2, 6, none⟩ = some (.int .u32 x1) ∧ W.cell? ⟨g2, 7, none⟩ = some (.int .u32 x2)) (fun _ => true) (by kernel_rfl) ?_
                  refine tk2 0 _ 93 rfl rfl KM ?_
                  refine tk2 1 _ 94 rfl rfl KM ?_
                  refine tk2 2 _ 95 rfl rfl KM ?_
                  refine tk2 3 _ 96 rfl rfl KM ?_
                  refine tk2 4 _ 97 rfl rfl KM ?_
                  refine tk2 5 _ 98 rfl rfl KM ?_
                  refine tk2 6 _ 99 rfl rfl KM ?_
                  refine tk2 7 _ 100 rfl rfl KM ?_
                  refine tk2 8 _ 101 rfl rfl KM ?_
                  refine tk2 9 _ 102 rfl rfl KM ?_
                  refine tk2 10 _ 103 rfl rfl KM ?_
                  refine tk2 11 _ 104 rfl rfl KM ?_
                  refine tk2 12 _ 105 rfl rfl KM ?_
                  refine tk2 13 _ 106 rfl rfl KM ?_
                  refine tk2 14 _ 107 rfl rfl KM ?_
                  refine tk2 15 _ 108 rfl rfl KM ?_
                  refine tk2 16 _ 109 rfl rfl KM ?_
                  refine tk2 17 _ 110 rfl rfl KM ?_
                  refine tk2 18 _ 111 rfl rfl KM ?_
                  refine tk2 19 _ 112 rfl rfl KM ?_
                  refine tk2 20 _ 113 rfl rfl KM ?_
                  refine tk2 21 _ 114 rfl rfl KM ?_
                  refine tk2 22 _ 115 rfl rfl KM ?_
                  refine wpAnyM.one (i := 23) (by kernel_rfl) rfl (fun KQ hK => ?_)
                  go_simp
                  refine (mix_any XI.out.b.ok XI.out.b.v (by omega) 3 7 11 15 (by omega) (by omega) (by omega) (by omega) x1 x2 hx1 hx2).mono ?_
                  rintro r w7 ⟨rfl, c7, v7, s7, o7⟩
                  have I7 := XI.out.vst (by omega) v7 s7 o7
                  have XI7 := Lib.hid I7
                  have KM : (fun W : World => W.cell? ⟨g2, 6, none⟩ = some (.int .u32 x1) ∧ W.cell? ⟨g2, 7, none⟩ = some (.int .u32 x2)) w7 := ⟨(s7.cell hgl (by rw [hgc]; show ¬ q + 2 = q + 1; omega)).trans y1, (s7.cell hgl (by rw [hgc]; show ¬ q + 2 = q + 1; omega)).trans y2⟩
                  clear v7 s7 o7 I7
                  go_simp
                  refine hK.out _ _ (fun _ => KM) ?_
                  clear hK KQ
                  (try simp only [Act.put, List.setIfInBounds_toArray, List.set_cons_zero, List.set_cons_succ])
                  refine wpAnyM.done (by kernel_rfl) ?_ _
                  go_wp2_with fail
                  go_roundw
                  case rel => first | exact ⟨4, c7, by omega, by first | rfl | go_num, XI7.out⟩ | exact ⟨4, by omega, by first | rfl | go_num, c7, XI7.out⟩
                  case measure => simp [intOf]
                · have XI := Lib.hid I
                  clear I
                  go_wp2_with fail
                  go_loopw [118] (fun vi wr => ∃ (i : Nat) (cr : Col), i ≤ 4 ∧ vi = .int .i64 i ∧ MixI c w q mb ib hb kh pre post S (pos + 1) g2 vc6 R cr wr) (fun vi _ => 4 - (intOf vi).toNat)
                  case atStart => exact ⟨0, cr, by omega, rfl, XI.out⟩
                  case round =>
                    clear XI
                    obtain ⟨i, cr, hi, rfl, I⟩ := hrel
                    have hgc : cr g2 = q + 2 := by obtain ⟨_, _, _, _, _, hcol⟩ := I.row; exact hcol g2 rfl
                    have hgl : g2 < wr.drew.heap.size := I.b.ok.lt (by rw [hgc]; omega)
                    rcases (by omega : i = 0 ∨ i = 1 ∨ i = 2 ∨ i = 3 ∨ i = 4) with rfl | rfl | rfl | rfl | rfl
                    · obtain ⟨x1, hx1, y1⟩ := own_word I.row (n := 8) (by rw [HRl.out]; omega)
                      obtain ⟨x2, hx2, y2⟩ := own_word I.row (n := 9) (by rw [HRl.out]; omega)
                      have hw0 : IntKind.i64.wrap 0 = 0 := IntWalk.i64_in _ (by omega)
                      have hw8 : IntKind.i64.wrap 8 = 8 := IntWalk.i64_in _ (by omega)
                      have hw9 : IntKind.i64.wrap 9 = 9 := IntWalk.i64_in _ (by omega)
                      have KM : (fun W : World => W.cell? ⟨g2, 8, none⟩ = some (.int .u32 x1) ∧ W.cell? ⟨g2, 9, none⟩ = some (.int .u32 x2)) wr.drew := ⟨y1, y2⟩
                      have XI := Lib.hid I.drew
                      clear I
                      go_wp2_with fail
                      refine region_planM (fun W => W.cell? ⟨g2, 8, none⟩ = some (.int .u32 x1) ∧ W.cell? ⟨g2, 9, none⟩ = some (.int .u32 x2)) (fun _ => true) (by kernel_rfl) ?_
                      refine tk2 0 _ 121 rfl rfl KM ?_
                      refine tk2 1 _ 122 rfl rfl KM ?_
                      refine tk2 2 _ 123 rfl rfl KM ?_
                      refine tk2 3 _ 124 rfl rfl KM ?_
                      refine tk2 4 _ 125 rfl rfl KM ?_
                      refine tk2 5 _ 126 rfl rfl KM ?_
                      refine tk2 6 _ 127 rfl rfl KM ?_
                      refine tk2 7 _ 128 rfl rfl KM ?_
                      refine tk2 8 _ 129 rfl rfl KM ?_
                      refine tk2 9 _ 130 rfl rfl KM ?_
                      refine tk2 10 _ 131 rfl rfl KM ?_
                      refine tk2 11 _ 132 rfl rfl KM ?_
                      refine tk2 12 _ 133 rfl rfl KM ?_
                      refine tk2 13 _ 134 rfl rfl KM ?_
                      refine tk2 14 _ 135 rfl rfl KM ?_
                      refine tk2 15 _ 136 rfl rfl KM ?_
                      refine tk2 16 _ 137 rfl rfl KM ?_
                      refine tk2 17 _ 138 rfl rfl KM ?_
                      refine tk2 18 _ 139 rfl rfl KM ?_
                      refine tk2 19 _ 140 rfl rfl KM ?_
                      refine tk2 20 _ 141 rfl rfl KM ?_
                      refine tk2 21 _ 142 rfl rfl KM ?_
                      refine tk2 22 _ 143 rfl rfl KM ?_
                      refine tk2 23 _ 144 rfl rfl KM ?_
                      refine tk2 24 _ 145 rfl rfl KM ?_
                      refine tk2 25 _ 146 rfl rfl KM ?_
                      refine tk2 26 _ 147 rfl rfl KM ?_
                      refine tk2 27 _ 148 rfl rfl KM ?_
                      refine tk2 28 _ 149 rfl rfl KM ?_
                      refine tk2 29 _ 150 rfl rfl KM ?_
                      refine wpAnyM.one (i := 30) (by kernel_rfl) rfl (fun KQ hK => ?_)
                      go_simp
                      refine (mix_any XI.out.b.ok XI.out.b.v (by omega) 0 5 10 15 (by omega) (by omega) (by omega) (by omega) x1 x2 hx1 hx2).mono ?_
                      rintro r w7 ⟨rfl, c7, v7, s7, o7⟩
                      have I7 := XI.out.vst (by omega) v7 s7 o7
                      have XI7 := Lib.hid I7
                      have KM : (fun W : World => W.cell? ⟨g2, 8, none⟩ = some (.int .u32 x1) ∧ W.cell? ⟨g2, 9, none⟩ = some (.int .u32 x2)) w7 := ⟨(s7.cell hgl (by rw [hgc]; show ¬ q + 2 = q + 1; omega)).trans y1, (s7.cell hgl (by rw [hgc]; show ¬ q + 2 = q + 1; omega)).trans y2⟩
                      clear v7 s7 o7 I7
                      go_simp
                      refine hK.out _ _ (fun _ => KM) ?_
                      clear hK KQ
                      (try simp only [Act.put, List.setIfInBounds_toArray, List.set_cons_zero, List.set_cons_succ])
                      refine wpAnyM.done (by kernel_rfl) ?_ _
                      go_wp2_with fail
                      go_roundw
                      case rel => first | exact ⟨1, c7, by omega, by first | rfl | go_num, XI7.out⟩ | exact ⟨1, by omega, by first | rfl | go_num, c7, XI7.out⟩
                      case measure => simp [intOf]
                    · obtain ⟨x1, hx1, y1⟩ := own_word I.row (n := 10) (by rw [HRl.out]; omega)
                      obtain ⟨x2, hx2, y2⟩ := own_word I.row (n := 11) (by rw [HRl.out]; omega)
                      have hw2 : IntKind.i64.wrap 2 = 2 := IntWalk.i64_in _ (by omega)
                      have hw10 : IntKind.i64.wrap 10 = 10 := IntWalk.i64_in _ (by omega)
                      have hw11 : IntKind.i64.wrap 11 = 11 := IntWalk.i64_in _ (by omega)
                      have KM : (fun W : World => W.cell? ⟨g2, 10, none⟩ = some (.int .u32 x1) ∧ W.cell? ⟨g2, 11, none⟩ = some (.int .u32 x2)) wr.drew := ⟨y1, y2⟩
                      have XI := Lib.hid I.drew
                      clear I
                      go_wp2_with fail
                      refine region_planM (fun W => W.cell? ⟨g2, 10, none⟩ = some (.int .u32 x1) ∧ W.cell? ⟨g2, 11, none⟩ = some (.int .u32 x2)) (fun _ => true) (by kernel_rfl) ?_
                      refine tk2 0 _ 121 rfl rfl KM ?_
                      refine tk2 1 _ 122 rfl rfl KM ?_
                      refine tk2 2 _ 123 rfl rfl KM ?_
                      refine tk2 3 _ 124 rfl rfl KM ?_
                      refine tk2 4 _ 125 rfl rfl KM ?_
                      refine tk2 5 _ 126 rfl rfl KM ?_
                      refine tk2 6 _ 127 rfl rfl KM ?_
                      refine tk2 7 _ 128 rfl rfl KM ?_
                      refine tk2 8 _ 129 rfl rfl KM ?_
                      refine tk2 9 _ 130 rfl rfl KM ?_
                      refine tk2 10 _ 131 rfl rfl KM ?_
                      refine tk2 11 _ 132 rfl rfl KM ?_
                      refine tk2 12 _ 133 rfl rfl KM ?_
                      refine tk2 13 _ 134 rfl rfl KM ?_
                      refine tk2 14 _ 135 rfl rfl KM ?_
                      refine tk2 15 _ 136 rfl rfl KM ?_
                      refine tk2 16 _ 137 rfl rfl KM ?_
                      refine tk2 17 _ 138 rfl rfl KM ?_
                      refine tk2 18 _ 139 rfl rfl KM ?_
                      refine tk2 19 _ 140 rfl rfl KM ?_
                      refine tk2 20 _ 141 rfl rfl KM ?_
                      refine tk2 21 _ 142 rfl rfl KM ?_
                      refine tk2 22 _ 143 rfl rfl KM ?_
                      refine tk2 23 _ 144 rfl rfl KM ?_
                      refine tk2 24 _ 145 rfl rfl KM ?_
                      refine tk2 25 _ 146 rfl rfl KM ?_
                      refine tk2 26 _ 147 rfl rfl KM ?_
                      refine tk2 27 _ 148 rfl rfl KM ?_
                      refine tk2 28 _ 149 rfl rfl KM ?_
                      refine tk2 29 _ 150 rfl rfl KM ?_
                      refine wpAnyM.one (i := 30) (by kernel_rfl) rfl (fun KQ hK => ?_)
                      go_simp
                      refine (mix_any XI.out.b.ok XI.out.b.v (by omega) 1 6 11 12 (by omega) (by omega) (by omega) (by omega) x1 x2 hx1 hx2).mono ?_
                      rintro r w7 ⟨rfl, c7, v7, s7, o7⟩
                      have I7 := XI.out.vst (by omega) v7 s7 o7
                      have XI7 := Lib.hid I7
                      have KM : (fun W : World => W.cell? ⟨g2, 10, none⟩ = some (.int .u32 x1) ∧ W.cell? ⟨g2, 11, none⟩ = some (.int .u32 x2)) w7 := ⟨(s7.cell hgl (by rw [hgc]; show ¬ q + 2 = q + 1; omega)).trans y1, (s7.cell hgl (by rw [hgc]; show ¬ q + 2 = q + 1; omega)).trans y2⟩
                      clear v7 s7 o7 I7
                      go_simp
                      refine hK.out _ _ (fun _ => KM) ?_
                      clear hK KQ
                      (try simp only [Act.put, List.setIfInBounds_toArray, List.set_cons_zero, List.set_cons_succ])
                      refine wpAnyM.done (by kernel_rfl) ?_ _
                      go_wp2_with fail
                      go_roundw
                      case rel => first | exact ⟨2, c7, by omega, by first | rfl | go_num, XI7.out⟩ | exact ⟨2, by omega, by first | rfl | go_num, c7, XI7.out⟩
                      case measure => simp [intOf]
                    · obtain ⟨x1, hx1, y1⟩ := own_word I.row (n := 12) (by rw [HRl.out]; omega)
                      obtain ⟨x2, hx2, y2⟩ := own_word I.row (n := 13) (by rw [HRl.out]; omega)
                      have hw4 : IntKind.i64.wrap 4 = 4 := IntWalk.i64_in _ (by omega)
                      have hw12 : IntKind.i64.wrap 12 = 12 := IntWalk.i64_in _ (by omega)
                      have hw13 : IntKind.i64.wrap 13 = 13 := IntWalk.i64_in _ (by omega)
                      have KM : (fun W : World => W.cell? ⟨g2, 12, none⟩ = some (.int .u32 x1) ∧ W.cell? ⟨g2, 13, none⟩ = some (.int .u32 x2)) wr.drew := ⟨y1, y2⟩
                      have XI := Lib.hid I.drew
                      clear I
                      go_wp2_with fail
                      refine region_planM (fun W => W.cell? ⟨g2, 12, none⟩ = some (.int .u32 x1) ∧ W.cell? ⟨g2, 13, none⟩ = some (.int .u32 x2)) (fun _ => true) (by kernel_rfl) ?_
                      refine tk2 0 _ 121 rfl rfl KM ?_
                      refine tk2 1 _ 122 rfl rfl KM ?_
                      refine tk2 2 _ 123 rfl rfl KM ?_
                      refine tk2 3 _ 124 rfl rfl KM ?_
                      refine tk2 4 _ 125 rfl rfl KM ?_
                      refine tk2 5 _ 126 rfl rfl KM ?_
                      refine tk2 6 _ 127 rfl rfl KM ?_
                      refine tk2 7 _ 128 rfl rfl KM ?_
                      refine tk2 8 _ 129 rfl rfl KM ?_
                      refine tk2 9 _ 130 rfl rfl KM ?_
                      refine tk2 10 _ 131 rfl rfl KM ?_
                      refine tk2 11 _ 132 rfl rfl KM ?_
                      refine tk2 12 _ 133 rfl rfl KM ?_
                      refine tk2 13 _ 134 rfl rfl KM ?_
                      refine tk2 14 _ 135 rfl rfl KM ?_
                      refine tk2 15 _ 136 rfl rfl KM ?_
                      refine tk2 16 _ 137 rfl rfl KM ?_
                      refine tk2 17 _ 138 rfl rfl KM ?_
                      refine tk2 18 _ 139 rfl rfl KM ?_
                      refine tk2 19 _ 140 rfl rfl KM ?_
                      refine tk2 20 _ 141 rfl rfl KM ?_
                      refine tk2 21 _ 142 rfl rfl KM ?_
                      refine tk2 22 _ 143 rfl rfl KM ?_
                      refine tk2 23 _ 144 rfl rfl KM ?_
                      refine tk2 24 _ 145 rfl rfl KM ?_
                      refine tk2 25 _ 146 rfl rfl KM ?_
                      refine tk2 26 _ 147 rfl rfl KM ?_
                      refine tk2 27 _ 148 rfl rfl KM ?_
                      refine tk2 28 _ 149 rfl rfl KM ?_
                      refine tk2 29 _ 150 rfl rfl KM ?_
                      refine wpAnyM.one (i := 30) (by kernel_rfl) rfl (fun KQ hK => ?_)
                      go_simp
                      refine (mix_any XI.out.b.ok XI.out.b.v (by omega) 2 7 8 13 (by omega) (by omega) (by omega) (by omega) x1 x2 hx1 hx2).mono ?_
                      rintro r w7 ⟨rfl, c7, v7, s7, o7⟩
                      have I7 := XI.out.vst (by omega) v7 s7 o7
                      have XI7 := Lib.hid I7
                      have KM : (fun W : World => W.cell? ⟨g2, 12, none⟩ = some (.int .u32 x1) ∧ W.cell? ⟨g2, 13, none⟩ = some (.int .u32 x2)) w7 := ⟨(s7.cell hgl (by rw [hgc]; show ¬ q + 2 = q + 1; omega)).trans y1, (s7.cell hgl (by rw [hgc]; show ¬ q + 2 = q + 1; omega)).trans y2⟩
                      clear v7 s7 o7 I7
                      go_simp
                      refine hK.out _ _ (fun _ => KM) ?_
                      clear hK KQ
                      (try simp only [Act.put, List.setIfInBounds_toArray, List.set_cons_zero, List.set_cons_succ])
                      refine wpAnyM.done (by kernel_rfl) ?_ _
                      go_wp2_with fail
                      go_roundw
                      case rel => first | exact ⟨3, c7, by omega, by first | rfl | go_num, XI7.out⟩ | exact ⟨3, by omega, by first | rfl | go_num, c7, XI7.out⟩
                      case measure => simp [intOf]
                    · obtain ⟨x1, hx1, y1⟩ := own_word I.row (n := 14) (by rw [HRl.out]; omega)
                      obtain ⟨x2, hx2, y2⟩ := own_word I.row (n := 15) (by rw [HRl.out]; omega)
                      have hw6 : IntKind.i64.wrap 6 = 6 := IntWalk.i64_in _ (by omega)
                      have hw14 : IntKind.i64.wrap 14 = 14 := IntWalk.i64_in _ (by omega)
                      have hw15 : IntKind.i64.wrap 15 = 15 := IntWalk.i64_in _ (by omega)
                      have KM : (fun W : World => W.cell? ⟨g2, 14, none⟩ = some (.int .u32 x1) ∧ W.cell? ⟨g2, 15, none⟩ = some (.int .u32 x2)) wr.drew := ⟨y1, y2⟩
                      have XI := Lib.hid I.drew
                      clear I
                      go_wp2_with fail
                      refine region_planM (fun W => W.cell? ⟨g2, 14, none⟩ = some (.int .u32 x1) ∧ W.cell? ⟨g2, 15, none⟩ = some (.int .u32 x2)) (fun _ => true) (by kernel_rfl) ?_
                      refine tk2 0 _ 121 rfl rfl KM ?_
                      refine tk2 1 _ 122 rfl rfl KM ?_
                      refine tk2 2 _ 123 rfl rfl KM ?_
                      refine tk2 3 _ 124 rfl rfl KM ?_
                      refine tk2 4 _ 125 rfl rfl KM ?_
                      refine tk2 5 _ 126 rfl rfl KM ?_
                      refine tk2 6 _ 127 rfl rfl KM ?_
                      refine tk2 7 _ 128 rfl rfl KM ?_
                      refine tk2 8 _ 129 rfl rfl KM ?_
                      refine tk2 9 _ 130 rfl rfl KM ?_
                      refine tk2 10 _ 131 rfl rfl KM ?_
                      refine tk2 11 _ 132 rfl rfl KM ?_
                      refine tk2 12 _ 133 rfl rfl KM ?_
                      refine tk2 13 _ 134 rfl rfl KM ?_
                      refine tk2 14 _ 135 rfl rfl KM ?_
                      refine tk2 15 _ 136 rfl rfl KM ?_
                      refine tk2 16 _ 137 rfl rfl KM ?_
                      refine tk2 17 _ 138 rfl rfl KM ?_
                      refine tk2 18 _ 139 rfl rfl KM ?_
                      refine tk2 19 _ 140 rfl rfl KM ?_
                      refine tk2 20 _ 141 rfl rfl KM ?_
                      refine tk2 21 _ 142 rfl rfl KM ?_
                      refine tk2 22 _ 143 rfl rfl KM ?_
                      refine tk2 23 _ 144 rfl rfl KM ?_
                      refine tk2 24 _ 145 rfl rfl KM ?_
                      refine tk2 25 _ 146 rfl rfl KM ?_
                      refine tk2 26 _ 147 rfl rfl KM ?_
                      refine tk2 27 _ 148 rfl rfl KM ?_
                      refine tk2 28 _ 149 rfl rfl KM ?_
                      refine tk2 29 _ 150 rfl rfl KM ?_
                      refine wpAnyM.one (i := 30) (by kernel_rfl) rfl (fun KQ hK => ?_)
                      go_simp
                      refine (mix_any XI.out.b.ok XI.out.b.v (by omega) 3 4 9 14 (by omega) (by omega) (by omega) (by omega) x1 x2 hx1 hx2).mono ?_
                      rintro r w7 ⟨rfl, c7, v7, s7, o7⟩
                      have I7 := XI.out.vst (by omega) v7 s7 o7
                      have XI7 := Lib.hid I7
                      have KM : (fun W : World => W.cell? ⟨g2, 14, none⟩ = some (.int .u32 x1) ∧ W.cell? ⟨g2, 15, none⟩ = some (.int .u32 x2)) w7 := ⟨(s7.cell hgl (by rw [hgc]; show ¬ q + 2 = q + 1; omega)).trans y1, (s7.cell hgl (by rw [hgc]; show ¬ q + 2 = q + 1; omega)).trans y2⟩
                      clear v7 s7 o7 I7
                      go_simp
                      refine hK.out _ _ (fun _ => KM) ?_
                      clear hK KQ
                      (try simp only [Act.put, List.setIfInBounds_toArray, List.set_cons_zero, List.set_cons_succ])
                      refine wpAnyM.done (by kernel_rfl) ?_ _
                      go_wp2_with fail
                      go_roundw
                      case rel => first | exact ⟨4, c7, by omega, by first | rfl | go_num, XI7.out⟩ | exact ⟨4, by omega, by first | rfl | go_num, c7, XI7.out⟩
                      case measure => simp [intOf]
                    · have XI := Lib.hid I
                      clear I
                      go_wp2_with fail
                      go_roundw
                      case rel => exact ⟨pos + 1, cr, [], by omega, XI.out.it, Own.nil _ _ _ _ _ _, by decide, XI.out.m, XI.out.b⟩
                      case measure =>
                        have e1 : wr.iterPos ib = pos + 1 := by unfold World.iterPos; rw [XI.out.it.it]
                        rw [HW.out, e1]; omega
          · have hpe : pos = 160 := by omega
            have hlt' : ¬ pos < S.size := by rw [HR.out.1]; omega
            have hnx : ∀ ty, (Instr.next (.pointer (some ⟨ib, 0, none⟩)) true ty).run Tryz.prog wr = _ := fun ty => Go.Lib.run_next_end_at wr ib S pos ty it.it hlt'
            obtain ⟨va, vc, rfl, _⟩ := ow.sl.form
            have XI := Lib.hid I1
            clear it ow m1 I1
            go_wp2_with fail
            go_loopw [153] (fun vi wr => ∃ (i : Nat) (cr : Col), i ≤ 8 ∧ vi = .int .i64 i ∧ BlkI c w q (mb + 1) hb kh pre post cr wr) (fun vi _ => 8 - (intOf vi).toNat)
            case atStart => exact ⟨0, cr, by omega, rfl, XI.out⟩
            case round =>
              clear XI hnx
              obtain ⟨i, cr, hi, rfl, I⟩ := hrel
              by_cases hi8 : i < 8
              · obtain ⟨z1, hz1, y1⟩ := I.h.cell hi8
                rw [ho] at y1
                obtain ⟨z2, hz2, y2⟩ := I.v.cell (i := i) (by omega)
                obtain ⟨z3, hz3, y3⟩ := I.v.cell (i := i + 8) (by omega)
                have yf := I.ok.soft hb (o + i) (by rw [I.h.col]; exact hkh)
                obtain ⟨z4, hz4, ez4⟩ := xor32 z2 z3 hz2 hz3
                obtain ⟨z5, hz5, ez5⟩ := xor32 z1 z4 hz1 hz4
                have e8 : IntKind.i64.wrap ((i : Int) + 8) = ((i + 8 : Nat) : Int) := by rw [IntWalk.i64_in _ (by omega)]; omega
                have e9 : ((i : Int) + 8).toNat = i + 8 := by omega
                have hi0 : (0 : Int) ≤ (i : Int) := by omega
                have hi1 : (i : Int) < 8 := by omega
                have hi2 : (i : Int) < 16 := by omega
                have hi3 : (i : Int) + 8 < 16 := by omega
                have hi4 : (0 : Int) ≤ (i : Int) + 8 := by omega
                have KE : (fun W : World => W.cell? ⟨hb, o + i, none⟩ = some (.int .u32 z1) ∧ W.cell? ⟨mb + 1, i, none⟩ = some (.int .u32 z2) ∧ W.cell? ⟨mb + 1, i + 8, none⟩ = some (.int .u32 z3) ∧ W.frozen? ⟨hb, o + i, none⟩ = false) wr.drew := ⟨y1, y2, y3, yf⟩
                have XI := Lib.hid I
                clear I y1 y2 y3 yf
                go_wp2_with fail
                refine region_planM (fun W => W.cell? ⟨hb, o + i, none⟩ = some (.int .u32 z1) ∧ W.cell? ⟨mb + 1, i, none⟩ = some (.int .u32 z2) ∧ W.cell? ⟨mb + 1, i + 8, none⟩ = some (.int .u32 z3) ∧ W.frozen? ⟨hb, o + i, none⟩ = false) (fun i => !([16] : List Nat).contains i) (by kernel_rfl) ?_
                refine tk4 0 _ 156 rfl rfl KE ?_
                refine tk4 1 _ 157 rfl rfl KE ?_
                refine tk4 2 _ 158 rfl rfl KE ?_
                refine tk4 3 _ 159 rfl rfl KE ?_
                refine tk4 4 _ 160 rfl rfl KE ?_
                refine tk4 5 _ 161 rfl rfl KE ?_
                refine tk4 6 _ 162 rfl rfl KE ?_
                refine tk4 7 _ 163 rfl rfl KE ?_
                refine tk4 8 _ 164 rfl rfl KE ?_
                refine tk4 9 _ 165 rfl rfl KE ?_
                refine tk4 10 _ 166 rfl rfl KE ?_
                refine tk4 11 _ 167 rfl rfl KE ?_
                refine tk4 12 _ 168 rfl rfl KE ?_
                refine tk4 13 _ 169 rfl rfl KE ?_
                refine tk4 14 _ 170 rfl rfl KE ?_
                refine tk4 15 _ 171 rfl rfl KE ?_
                refine wpAnyM.one (i := 16) (by kernel_rfl) rfl (fun KQ hK => ?_)
                go_simp
                refine hK.out _ _ (fun h => absurd h (by decide)) ?_
                clear hK KQ
                (try simp only [Act.put, List.setIfInBounds_toArray, List.set_cons_zero, List.set_cons_succ])
                refine wpAnyM.done (by kernel_rfl) ?_ _
                clear KE
                (try rw [ez4])
                (try rw [ez5])
                go_wp2_with fail
                go_roundw
                case rel =>
                  obtain ⟨v1, h1, s1, o1⟩ := XI.out
                  have hbv : mb + 1 ≠ hb := fun e => by have e1 := v1.col; have e2 := h1.col; rw [e, e2] at e1; omega
                  have st : Step (One kh) cr wr cr (wr.setCell ⟨hb, o + i, none⟩ (.int .u32 z5)).drew := ((Step.refl (K := One kh)).setCell (a := ⟨hb, o + i, none⟩) (.inr h1.col) _).drew
                  have h2 := h1.set hi8 z5 hz5
                  rw [ho] at h2
                  exact ⟨i + 1, cr, by omega, by go_num, (v1.off hbv).drewN 1, h2.keep (Step.rf.drewN 1) (fun h => h), s1.hi st (.inl rfl), (o1.setCell _ _).drew⟩
                case measure => simp [intOf]; omega
              · have hi8' : i = 8 := by omega
                subst hi8'
                have XI := Lib.hid I
                clear I
                go_wp2_with fail
                first | go_end0 | refine bodyPost_ret (results_none rfl _ _ _) rfl ?_
                exact ⟨rfl, cr, XI.out.h, XI.out.s.low hqc, XI.out.ok⟩
end
end Go.Proofs.YtgcobbapaaihiaaGreat
