/- ServerKnown, part 22: lemmas, each with its own conditions. -/
import Derived.Test.YtgcobbapaaihiaaGreatSk05
import Derived.Test.YtgcobbapaaihiaaGreatSk06
set_option linter.unusedVariables false
set_option linter.unusedSimpArgs false
namespace Go.Proofs.YtgcobbapaaihiaaGreat
open Go.RowKit

/-- What is wrong at the end. -/
def endF (bs : List UInt8) (a : Nat) (f : Int × Int) : Int × Int := if f.1 = 0 ∧ a < bs.length then (4, a) else f

theorem info_fault : (Tryz.prog.info? 74).map (·.size) = some 2 := by kernel_rfl

section
variable {c : Col} {w : World}

set_option maxRecDepth 100000 in
set_option maxHeartbeats 800000 in
theorem rest_ok {k p : Nat} {bs : List UInt8} {a : Nat} {f : Int × Int} (h : IsRd c k w p bs a f) (hf : f.1 = 0) :
    Calls Tryz.prog 98 #[.pointer (some ⟨p, 0, none⟩)] w fun r w' => r = .returned (.int .i64 ((bs.length : Int) - a)) ∧ ∃ n, w' = w.drewN n := by
  obtain ⟨bv, x, ow⟩ := h.row
  have hle := h.le
  have hfew := h.few
  obtain ⟨va, vc, rfl, _⟩ := ow.sl.form
  have y0 := x.get (i := 0) rfl
  have y1 := x.get (i := 1) rfl
  have y2 := x.get (i := 2) rfl
  have y4 := x.get (i := 4) rfl
  rw [hf] at y2
  have hw : IntKind.i64.wrap ((bs.length : Int) - (a : Int)) = (bs.length : Int) - (a : Int) := IntWalk.i64_in _ (by omega)
  clear h x ow hf
  go_enter Tryz.func98, Tryz.ntmps98
  go_wp2_with fail
  go_quiet (fail)
  go_wp2_with fail
  go_ret
  exact ⟨rfl, _, rfl⟩

theorem rest_bad {k p : Nat} {bs : List UInt8} {a : Nat} {f : Int × Int} (h : IsRd c k w p bs a f) (hf : f.1 ≠ 0) :
    Calls Tryz.prog 98 #[.pointer (some ⟨p, 0, none⟩)] w fun r w' => r = .returned (.int .i64 0) ∧ w' = w := by
  obtain ⟨bv, x, ow⟩ := h.row
  have y2 := x.get (i := 2) rfl
  have y4 := x.get (i := 4) rfl
  have hf1 : (f.1 == 0) = false := beq_eq_false_iff_ne.2 hf
  have hf2 : (f.1 != 0) = true := by rw [bne_iff_ne]; exact hf
  clear h x ow
  go_enter Tryz.func98, Tryz.ntmps98
  go_wp2_with fail
  go_ret
  exact ⟨rfl, rfl⟩

set_option maxRecDepth 100000 in
set_option maxHeartbeats 800000 in
theorem end_any (hok : Ok c w) {k p : Nat} {bs : List UInt8} {a : Nat} {f : Int × Int} (h : IsRd c k w p bs a f) :
    Calls Tryz.prog 59 #[.pointer (some ⟨p, 0, none⟩)] w fun r w' => r = .returned (.agg #[.int .i64 (endF bs a f).1, .int .i64 (endF bs a f).2]) ∧ ∃ c', Step No c w c' w' ∧ Ok c' w' := by
  obtain ⟨bv, x, ow⟩ := h.row
  have hle := h.le
  have hfew := h.few
  obtain ⟨va, vc, rfl, _⟩ := ow.sl.form
  obtain ⟨f1, f2⟩ := f
  have hE := Lib.hid (show endF bs a (f1, f2) = if f1 = 0 ∧ a < bs.length then (4, (a : Int)) else (f1, f2) from rfl)
  obtain ⟨q, hq, hqc⟩ := hok.spare 0
  have hq0 : q ≠ 0 := by omega
  obtain ⟨a0, o0, s0⟩ := newAt hok [.int .i64 0, .int .i64 0] 74 q
  have HH := Lib.hid (And.intro a0 (And.intro o0 s0))
  have x' := x.keep s0 (fun h => h)
  have y0 := x'.get (i := 0) rfl
  have y1 := x'.get (i := 1) rfl
  have y2 := x'.get (i := 2) rfl
  have y3 := x'.get (i := 3) rfl
  have y4 := x'.get (i := 4) rfl
  have hxb : p ≠ w.heap.size := by have := x.lt; omega
  have z0 := a0.get (i := 0) rfl
  have z1 := a0.get (i := 1) rfl
  have zf0 := a0.fz o0 hq0 0
  have zf1 := a0.fz o0 hq0 1
  clear h x x' ow hok hqc a0 o0 s0
  have fin : ∀ n e1 e2, True ∧ At (c.put w.heap.size q) ((((w.alloc (.cells #[.int .i64 0, .int .i64 0] 74)).drewN n).setCell ⟨w.heap.size, 0, none⟩ (.int .i64 e1)).setCell ⟨w.heap.size, 1, none⟩ (.int .i64 e2)) w.heap.size q [.int .i64 e1, .int .i64 e2] ∧
      Step No c w (c.put w.heap.size q) ((((w.alloc (.cells #[.int .i64 0, .int .i64 0] 74)).drewN n).setCell ⟨w.heap.size, 0, none⟩ (.int .i64 e1)).setCell ⟨w.heap.size, 1, none⟩ (.int .i64 e2)) ∧
      Ok (c.put w.heap.size q) ((((w.alloc (.cells #[.int .i64 0, .int .i64 0] 74)).drewN n).setCell ⟨w.heap.size, 0, none⟩ (.int .i64 e1)).setCell ⟨w.heap.size, 1, none⟩ (.int .i64 e2)) := fun n e1 e2 => by
    obtain ⟨a0, o0, s0⟩ := HH.out
    have b0 := a0.keep (Step.rf.drewN n) (fun h => h)
    have b1 := b0.setN (i := 0) (by simp) (.int .i64 e1)
    have b2 := b1.setN (i := 1) (by simp) (.int .i64 e2)
    exact ⟨trivial, b2, ((s0.drewN n).setCell (a := ⟨w.heap.size, 0, none⟩) (.inl (Nat.le_refl _)) _).setCell (a := ⟨w.heap.size, 1, none⟩) (.inl (Nat.le_refl _)) _, ((o0.drewN n).setCell _ _).setCell _ _⟩
  have FIN := Lib.hid fin
  have hi2 : Hid ((Tryz.prog.info? 74).map (·.size) = some 2) := Lib.hid info_fault
  clear fin
  by_cases hf : f1 = 0
  · subst hf
    by_cases hlt : a < bs.length
    · have hlt' : (a : Int) < (bs.length : Int) := by omega
      go_enter Tryz.func59, Tryz.ntmps59
      go_wp2_with fail
      go_quiet (fail)
      go_wp2_with fail
      rw [hE.out, if_pos ⟨by first | rfl | trivial, hlt⟩]
      refine bodyPost_ret (results_cell_mid rfl _ _ w.heap.size 0 _ _ rfl (FIN.out _ _ _).2.1.cells Tryz.underlying74 rfl hi2.out) rfl ⟨rfl, _, (FIN.out _ _ _).2.2⟩
    · have hlt' : ¬ (a : Int) < (bs.length : Int) := by omega
      go_enter Tryz.func59, Tryz.ntmps59
      go_wp2_with fail
      go_quiet (fail)
      go_wp2_with fail
      rw [hE.out, if_neg (fun h => hlt h.2)]
      refine bodyPost_ret (results_cell_mid rfl _ _ w.heap.size 0 _ _ rfl (FIN.out _ _ _).2.1.cells Tryz.underlying74 rfl hi2.out) rfl ⟨rfl, _, (FIN.out _ _ _).2.2⟩
  · have hf1 : (f1 == 0) = false := beq_eq_false_iff_ne.2 hf
    go_enter Tryz.func59, Tryz.ntmps59
    go_wp2_with fail
    go_quiet (fail)
    go_wp2_with fail
    rw [hE.out, if_neg (fun h => hf h.1)]
    refine bodyPost_ret (results_cell_mid rfl _ _ w.heap.size 0 _ _ rfl (FIN.out _ _ _).2.1.cells Tryz.underlying74 rfl hi2.out) rfl ⟨rfl, _, (FIN.out _ _ _).2.2⟩
end
end Go.Proofs.YtgcobbapaaihiaaGreat

set_option linter.unusedVariables false
set_option linter.unusedSimpArgs false
namespace Go.Proofs.YtgcobbapaaihiaaGreat
open Go.RowKit

theorem bigN_min : ∀ (f n : Nat), n < 256 ^ f → bigN (minF f n) = n
  | 0, n, h => by simp at h; subst h; rfl
  | f + 1, n, h => by
    rw [minF]
    split
    · next h0 => subst h0; rfl
    · have h1 : n / 256 < 256 ^ f := Nat.div_lt_of_lt_mul (by rw [Nat.pow_succ] at h; omega)
      rw [bigN_app, bigN_min f (n / 256) h1]
      have : (UInt8.ofNat (n % 256)).toNat = n % 256 := by simp
      rw [this]; omega

theorem min_head : ∀ (f n : Nat), n < 256 ^ f → ∀ x l, minF f n = x :: l → x ≠ 0
  | 0, n, h, x, l, e => by simp [minF] at e
  | f + 1, n, h, x, l, e => by
    rw [minF] at e
    split at e
    · cases e
    · next h0 =>
      have h1 : n / 256 < 256 ^ f := Nat.div_lt_of_lt_mul (by rw [Nat.pow_succ] at h; omega)
      rcases hm : minF f (n / 256) with _ | ⟨y, r⟩
      · rw [hm] at e
        have hz : n / 256 = 0 := by
          have := bigN_min f (n / 256) h1
          rw [hm] at this
          exact this.symm
        simp at e
        rw [← e.1]
        intro h2
        have h3 : (UInt8.ofNat (n % 256)).toNat = n % 256 := by simp
        have h4 := congrArg UInt8.toNat h2
        simp at h4
        omega
      · rw [hm] at e
        simp at e
        rw [← e.1]
        exact min_head f (n / 256) h1 y r hm

section
variable {c : Col} {w : World}

set_option maxRecDepth 100000 in
theorem num1_any {kx : Nat} {v : Value} {l : List UInt8} (h : Sl TByte c kx 0 w v l) (hl : l.length ≤ 8) {p5 p6 : Nat} {x6 : Int} (h5 : w.cell? ⟨p5, 0, none⟩ = some (.int .i64 l.length)) (h6 : w.cell? ⟨p6, 0, none⟩ = some (.int .u8 x6)) (h6f : w.frozen? ⟨p6, 0, none⟩ = false)
    (h6c : c p6 ≠ kx) (h60 : c p6 ≠ 0) :
    Calls Tryz.prog 137 #[v, .pointer (some ⟨p5, 0, none⟩), .pointer (some ⟨p6, 0, none⟩)] w fun r w' => r = .returned (.int .u64 (bigN l)) ∧
      w' = (if l = [] then w else w.setCell ⟨p6, 0, none⟩ (.int .u8 ((l.headD 0).toNat))) := by
  rcases l with _ | ⟨x, l⟩
  · have B := big_any h hl
    obtain ⟨va, vc, rfl, _⟩ := h.form
    simp only [List.length_nil] at *
    clear h
    go_enter Tryz.func137, Tryz.ntmps137
    go_wp2_with fail
    with_reducible refine B.mono ?_
    rintro e w1 ⟨rfl, rfl⟩
    go_wp2_with fail
    go_ret
    exact ⟨rfl, rfl⟩
  · obtain ⟨g, off, cap, rfl, _⟩ := h.ex (by simp)
    have y0 : w.cell? ⟨g, off, none⟩ = some (.int .u8 x.toNat) := by
      obtain ⟨vs, rfl, hcs⟩ := h.at (j := 0) (x := x) rfl
      have := hcs.get 0 rfl
      simpa [TByte] using this
    have B := big_any (h.set (a := ⟨p6, 0, none⟩) h6c h60 (.int .u8 x.toNat)) hl
    obtain ⟨n, hn⟩ : ∃ n, (x :: l).length = n := ⟨_, rfl⟩
    have hn0 : 0 < n := by rw [← hn]; simp
    have hi0 : (0 : Int) < (n : Int) := by omega
    rw [hn] at B h5 ⊢
    clear h hn
    go_enter Tryz.func137, Tryz.ntmps137
    go_wp2_with fail
    with_reducible refine B.mono ?_
    rintro e w1 ⟨rfl, rfl⟩
    go_wp2_with fail
    go_ret
    exact ⟨rfl, rfl⟩
end
end Go.Proofs.YtgcobbapaaihiaaGreat
