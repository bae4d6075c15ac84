/- ServerTurns, part 17: lemmas, each with its own conditions. -/
import Derived.Test.YtgcobbapaaihiaaGreatSt02
import Derived.Test.YtgcobbapaaihiaaGreatSt05
import Derived.Test.YtgcobbapaaihiaaGreatSt16
import Derived.Defers
import Derived.Recover
import Derived.Laws.Pointers
set_option linter.unusedVariables false
set_option linter.unusedSimpArgs false
namespace Go.Proofs.YtgcobbapaaihiaaGreat
open Go.RowKit

/-- What is answered in a mood; when. -/
def outS (m : Int) (s : Srv) (h id : Int) : List UInt8 :=
  if m = 1 then wayT gStay s h id else if m = 3 then wayT gStay s h id else if m = 4 then (wayT gStay s h id).take ((wayT gStay s h id).length - 1) else if m = 5 then offT s h id else if m = 6 then wayT gBroken s h id else if m = 7 then wayT gPoor s h id else if m = 8 then otherT s h id else if m = 9 then wayT gOdd s h id else []
def tickS (m : Int) (s : Srv) : Int := if m = 3 then s.delay + s.slow else s.delay
/-- Which function answers. -/
def fnW (m : Int) : Nat :=
  if m = 1 then 61 else if m = 3 then 62 else if m = 4 then 63 else if m = 5 then 64 else if m = 6 then 65 else if m = 7 then 66 else if m = 8 then 67 else if m = 9 then 68 else 60

theorem mood_cases {m : Int} (h0 : 0 < m) (h9 : m < 10) : m = 1 ∨ m = 2 ∨ m = 3 ∨ m = 4 ∨ m = 5 ∨ m = 6 ∨ m = 7 ∨ m = 8 ∨ m = 9 := by omega

theorem fnW_enters {m : Int} (h0 : 0 < m) (h9 : m < 10) (args : Array Value) (w : World) : (callFunc (fnW m) args).run Tryz.prog w = .ok (.enter (fnW m) args) w := by
  rcases mood_cases h0 h9 with rfl | rfl | rfl | rfl | rfl | rfl | rfl | rfl | rfl
  · exact enters_of Tryz.func61 (by kernel_rfl) rfl _ _
  · exact enters_of Tryz.func60 (by kernel_rfl) rfl _ _
  · exact enters_of Tryz.func62 (by kernel_rfl) rfl _ _
  · exact enters_of Tryz.func63 (by kernel_rfl) rfl _ _
  · exact enters_of Tryz.func64 (by kernel_rfl) rfl _ _
  · exact enters_of Tryz.func65 (by kernel_rfl) rfl _ _
  · exact enters_of Tryz.func66 (by kernel_rfl) rfl _ _
  · exact enters_of Tryz.func67 (by kernel_rfl) rfl _ _
  · exact enters_of Tryz.func68 (by kernel_rfl) rfl _ _

theorem index_ways {m : Int} (h0 : 0 < m) (h9 : m < 10) (db : Nat) (W : World) : (Instr.index 81 (.agg (waysC db).toArray) (.int .i64 m)).run Tryz.prog W = .ok (wayF (fnW m) db) W := by
  have hi : (Tryz.prog.info? 80).map (·.size) = some 1 := by kernel_rfl
  have hs : (sizeOf 80).run Tryz.prog W = .ok 1 W := by
    cases hq : Tryz.prog.info? 80 with
    | none => rw [hq] at hi; cases hi
    | some i =>
      have : i.size = 1 := by rw [hq] at hi; simpa using hi
      simp [sizeOf, typeInfo, hq, this]
  have hu := run_underlying Tryz.underlying81 W
  have hu2 := run_underlying Tryz.underlying80 W
  rcases mood_cases h0 h9 with rfl | rfl | rfl | rfl | rfl | rfl | rfl | rfl | rfl <;> simp [Instr.index, asIntOf, hu, hu2, part, isAgg, hs, Value.cells, waysC, fnW]

section
variable {c : Col} {w : World}

theorem way_any (hok : Ok c w) {s : Srv} {k kd db : Nat} (hk : ¬ k = kd) (hkd : kd ≠ 0) {vc vo vm : Value} (hs : s.At c k w vc vo vm) {id h : Int} (hid : idB id = true) (hh : heightB h = true) (hd : At c w db kd (deskC s vc vo vm id h s.delay)) (hc : checkS s = 0) {m : Int} (h0 : 0 < m) (h9 : m < 10) (kx : Nat) :
    Calls Tryz.prog (fnW m) #[.pointer (some ⟨db, 0, none⟩)] w fun r w' => ∃ v, r = .returned v ∧ ∃ c', Sl TByte c' kx 0 w' v (outS m s h id) ∧ At c' w' db kd (deskC s vc vo vm id h (tickS m s)) ∧ Step (One kd) c w c' w' ∧ Ok c' w' := by
  have hh2 : 0 ≤ h ∧ h ≤ 4611686018427387904 := by simp only [heightB, Bool.and_eq_true, decide_eq_true_eq] at hh; omega
  have G : ∀ {f : Nat} {L : List UInt8}, (Calls Tryz.prog f #[.pointer (some ⟨db, 0, none⟩)] w fun r w' => ∃ v, r = .returned v ∧ ∃ c', Sl TByte c' kx 0 w' v L ∧ Step No c w c' w' ∧ Ok c' w') →
      Calls Tryz.prog f #[.pointer (some ⟨db, 0, none⟩)] w fun r w' => ∃ v, r = .returned v ∧ ∃ c', Sl TByte c' kx 0 w' v L ∧ At c' w' db kd (deskC s vc vo vm id h s.delay) ∧ Step (One kd) c w c' w' ∧ Ok c' w' :=
    fun H => H.mono (by rintro r w' ⟨v, rfl, c', sl, st, o⟩; exact ⟨v, rfl, c', sl, hd.kn st, st.ofNo, o⟩)
  rcases mood_cases h0 h9 with rfl | rfl | rfl | rfl | rfl | rfl | rfl | rfl | rfl
  · exact G (wplain_any hok hs hid hd kx)
  · exact G (wquiet_any hok db kx)
  · have hw : IntKind.i64.wrap (s.delay + s.slow) = s.delay + s.slow := IntWalk.i64_in _ (by
      have h1 : ¬ badW s.delay = true ∧ ¬ badW s.slow = true := by
        unfold checkS at hc
        split at hc
        · cases hc
        split at hc
        · cases hc
        split at hc
        · cases hc
        · exact ⟨by assumption, by assumption⟩
      simp only [badW, Bool.or_eq_true, decide_eq_true_eq, not_or] at h1
      omega)
    exact wlate_any hok hk hkd hs hid hd hw kx
  · exact G (wcut_any hok hs hid hd kx)
  · exact G (woff_any hok hs hid hh2 hd kx)
  · exact G (wbroken_any hok hs hid hd kx)
  · exact G (wpoor_any hok hs hid hd kx)
  · exact G (wother_any hok hs hid hd kx)
  · exact G (wodd_any hok hs hid hd kx)
end
end Go.Proofs.YtgcobbapaaihiaaGreat

set_option linter.unusedVariables false
set_option linter.unusedSimpArgs false
namespace Go.Proofs.YtgcobbapaaihiaaGreat
open Go.RowKit

/-- What is wrong at the end. -/
def endF (bs : List UInt8) (a : Nat) (f : Int × Int) : Int × Int := if f.1 = 0 ∧ a < bs.length then (4, a) else f

theorem info_fault : (Tryz.prog.info? 74).map (·.size) = some 2 := by kernel_rfl

section
variable {c : Col} {w : World}

set_option maxRecDepth 100000 in
set_option maxHeartbeats 800000 in
theorem rest_ok {k p : Nat} {bs : List UInt8} {a : Nat} {f : Int × Int} (h : IsRd c k w p bs a f) (hf : f.1 = 0) :
    Calls Tryz.prog 98 #[.pointer (some ⟨p, 0, none⟩)] w fun r w' => r = .returned (.int .i64 ((bs.length : Int) - a)) ∧ ∃ n, w' = w.drewN n := by
  obtain ⟨bv, x, ow⟩ := h.row
  have hle := h.le
  have hfew := h.few
  obtain ⟨va, vc, rfl, _⟩ := ow.sl.form
  have y0 := x.get (i := 0) rfl
  have y1 := x.get (i := 1) rfl
  have y2 := x.get (i := 2) rfl
  have y4 := x.get (i := 4) rfl
  rw [hf] at y2
  have hw : IntKind.i64.wrap ((bs.length : Int) - (a : Int)) = (bs.length : Int) - (a : Int) := IntWalk.i64_in _ (by omega)
  clear h x ow hf
  go_enter Tryz.func98, Tryz.ntmps98
  go_wp2_with fail
  go_quiet (fail)
  go_wp2_with fail
  go_ret
  exact ⟨rfl, _, rfl⟩

theorem rest_bad {k p : Nat} {bs : List UInt8} {a : Nat} {f : Int × Int} (h : IsRd c k w p bs a f) (hf : f.1 ≠ 0) :
    Calls Tryz.prog 98 #[.pointer (some ⟨p, 0, none⟩)] w fun r w' => r = .returned (.int .i64 0) ∧ w' = w := by
  obtain ⟨bv, x, ow⟩ := h.row
  have y2 := x.get (i := 2) rfl
  have y4 := x.get (i := 4) rfl
  have hf1 : (f.1 == 0) = false := beq_eq_false_iff_ne.2 hf
  have hf2 : (f.1 != 0) = true := by rw [bne_iff_ne]; exact hf
  clear h x ow
  go_enter Tryz.func98, Tryz.ntmps98
  go_wp2_with fail
  go_ret
  exact ⟨rfl, rfl⟩

set_option maxRecDepth 100000 in
set_option maxHeartbeats 800000 in
theorem end_any (hok : Ok c w) {k p : Nat} {bs : List UInt8} {a : Nat} {f : Int × Int} (h : IsRd c k w p bs a f) :
    Calls Tryz.prog 59 #[.pointer (some ⟨p, 0, none⟩)] w fun r w' => r = .returned (.agg #[.int .i64 (endF bs a f).1, .int .i64 (endF bs a f).2]) ∧ ∃ c', Step No c w c' w' ∧ Ok c' w' := by
  obtain ⟨bv, x, ow⟩ := h.row
  have hle := h.le
  have hfew := h.few
  obtain ⟨va, vc, rfl, _⟩ := ow.sl.form
  obtain ⟨f1, f2⟩ := f
  have hE := Lib.hid (show endF bs a (f1, f2) = if f1 = 0 ∧ a < bs.length then (4, (a : Int)) else (f1, f2) from rfl)
  obtain ⟨q, hq, hqc⟩ := hok.spare 0
  have hq0 : q ≠ 0 := by omega
  obtain ⟨a0, o0, s0⟩ := newAt hok [.int .i64 0, .int .i64 0] 74 q
  have HH := Lib.hid (And.intro a0 (And.intro o0 s0))
  have x' := x.keep s0 (fun h => h)
  have y0 := x'.get (i := 0) rfl
  have y1 := x'.get (i := 1) rfl
  have y2 := x'.get (i := 2) rfl
  have y3 := x'.get (i := 3) rfl
  have y4 := x'.get (i := 4) rfl
  have hxb : p ≠ w.heap.size := by have := x.lt; omega
  have z0 := a0.get (i := 0) rfl
  have z1 := a0.get (i := 1) rfl
  have zf0 := a0.fz o0 hq0 0
  have zf1 := a0.fz o0 hq0 1
  clear h x x' ow hok hqc a0 o0 s0
  have fin : ∀ n e1 e2, True ∧ At (c.put w.heap.size q) ((((w.alloc (.cells #[.int .i64 0, .int .i64 0] 74)).drewN n).setCell ⟨w.heap.size, 0, none⟩ (.int .i64 e1)).setCell ⟨w.heap.size, 1, none⟩ (.int .i64 e2)) w.heap.size q [.int .i64 e1, .int .i64 e2] ∧
      Step No c w (c.put w.heap.size q) ((((w.alloc (.cells #[.int .i64 0, .int .i64 0] 74)).drewN n).setCell ⟨w.heap.size, 0, none⟩ (.int .i64 e1)).setCell ⟨w.heap.size, 1, none⟩ (.int .i64 e2)) ∧
      Ok (c.put w.heap.size q) ((((w.alloc (.cells #[.int .i64 0, .int .i64 0] 74)).drewN n).setCell ⟨w.heap.size, 0, none⟩ (.int .i64 e1)).setCell ⟨w.heap.size, 1, none⟩ (.int .i64 e2)) := fun n e1 e2 => by
    obtain ⟨a0, o0, s0⟩ := HH.out
    have b0 := a0.keep (Step.rf.drewN n) (fun h => h)
    have b1 := b0.setN (i := 0) (by simp) (.int .i64 e1)
    have b2 := b1.setN (i := 1) (by simp) (.int .i64 e2)
    exact ⟨trivial, b2, ((s0.drewN n).setCell (a := ⟨w.heap.size, 0, none⟩) (.inl (Nat.le_refl _)) _).setCell (a := ⟨w.heap.size, 1, none⟩) (.inl (Nat.le_refl _)) _, ((o0.drewN n).setCell _ _).setCell _ _⟩
  have FIN := Lib.hid fin
  have hi2 : Hid ((Tryz.prog.info? 74).map (·.size) = some 2) := Lib.hid info_fault
  clear fin
  by_cases hf : f1 = 0
  · subst hf
    by_cases hlt : a < bs.length
    · have hlt' : (a : Int) < (bs.length : Int) := by omega
      go_enter Tryz.func59, Tryz.ntmps59
      go_wp2_with fail
      go_quiet (fail)
      go_wp2_with fail
      rw [hE.out, if_pos ⟨by first | rfl | trivial, hlt⟩]
      refine bodyPost_ret (results_cell_mid rfl _ _ w.heap.size 0 _ _ rfl (FIN.out _ _ _).2.1.cells Tryz.underlying74 rfl hi2.out) rfl ⟨rfl, _, (FIN.out _ _ _).2.2⟩
    · have hlt' : ¬ (a : Int) < (bs.length : Int) := by omega
      go_enter Tryz.func59, Tryz.ntmps59
      go_wp2_with fail
      go_quiet (fail)
      go_wp2_with fail
      rw [hE.out, if_neg (fun h => hlt h.2)]
      refine bodyPost_ret (results_cell_mid rfl _ _ w.heap.size 0 _ _ rfl (FIN.out _ _ _).2.1.cells Tryz.underlying74 rfl hi2.out) rfl ⟨rfl, _, (FIN.out _ _ _).2.2⟩
  · have hf1 : (f1 == 0) = false := beq_eq_false_iff_ne.2 hf
    go_enter Tryz.func59, Tryz.ntmps59
    go_wp2_with fail
    go_quiet (fail)
    go_wp2_with fail
    rw [hE.out, if_neg (fun h => hf h.1)]
    refine bodyPost_ret (results_cell_mid rfl _ _ w.heap.size 0 _ _ rfl (FIN.out _ _ _).2.1.cells Tryz.underlying74 rfl hi2.out) rfl ⟨rfl, _, (FIN.out _ _ _).2.2⟩
end
end Go.Proofs.YtgcobbapaaihiaaGreat

set_option linter.unusedVariables false
set_option linter.unusedSimpArgs false
namespace Go.Proofs.YtgcobbapaaihiaaGreat
open Go.RowKit

theorem bigN_min : ∀ (f n : Nat), n < 256 ^ f → bigN (minF f n) = n
  | 0, n, h => by simp at h; subst h; rfl
  | f + 1, n, h => by
    rw [minF]
    split
    · next h0 => subst h0; rfl
    · have h1 : n / 256 < 256 ^ f := Nat.div_lt_of_lt_mul (by rw [Nat.pow_succ] at h; omega)
      rw [bigN_app, bigN_min f (n / 256) h1]
      have : (UInt8.ofNat (n % 256)).toNat = n % 256 := by simp
      rw [this]; omega

theorem min_head : ∀ (f n : Nat), n < 256 ^ f → ∀ x l, minF f n = x :: l → x ≠ 0
  | 0, n, h, x, l, e => by simp [minF] at e
  | f + 1, n, h, x, l, e => by
    rw [minF] at e
    split at e
    · cases e
    · next h0 =>
      have h1 : n / 256 < 256 ^ f := Nat.div_lt_of_lt_mul (by rw [Nat.pow_succ] at h; omega)
      rcases hm : minF f (n / 256) with _ | ⟨y, r⟩
      · rw [hm] at e
        have hz : n / 256 = 0 := by
          have := bigN_min f (n / 256) h1
          rw [hm] at this
          exact this.symm
        simp at e
        rw [← e.1]
        intro h2
        have h3 : (UInt8.ofNat (n % 256)).toNat = n % 256 := by simp
        have h4 := congrArg UInt8.toNat h2
        simp at h4
        omega
      · rw [hm] at e
        simp at e
        rw [← e.1]
        exact min_head f (n / 256) h1 y r hm

section
variable {c : Col} {w : World}

set_option maxRecDepth 100000 in
theorem num1_any {kx : Nat} {v : Value} {l : List UInt8} (h : Sl TByte c kx 0 w v l) (hl : l.length ≤ 8) {p5 p6 : Nat} {x6 : Int} (h5 : w.cell? ⟨p5, 0, none⟩ = some (.int .i64 l.length)) (h6 : w.cell? ⟨p6, 0, none⟩ = some (.int .u8 x6)) (h6f : w.frozen? ⟨p6, 0, none⟩ = false)
    (h6c : c p6 ≠ kx) (h60 : c p6 ≠ 0) :
    Calls Tryz.prog 137 #[v, .pointer (some ⟨p5, 0, none⟩), .pointer (some ⟨p6, 0, none⟩)] w fun r w' => r = .returned (.int .u64 (bigN l)) ∧
      w' = (if l = [] then w else w.setCell ⟨p6, 0, none⟩ (.int .u8 ((l.headD 0).toNat))) := by
  rcases l with _ | ⟨x, l⟩
  · have B := big_any h hl
    obtain ⟨va, vc, rfl, _⟩ := h.form
    simp only [List.length_nil] at *
    clear h
    go_enter Tryz.func137, Tryz.ntmps137
    go_wp2_with fail
    with_reducible refine B.mono ?_
    rintro e w1 ⟨rfl, rfl⟩
    go_wp2_with fail
    go_ret
    exact ⟨rfl, rfl⟩
  · obtain ⟨g, off, cap, rfl, _⟩ := h.ex (by simp)
    have y0 : w.cell? ⟨g, off, none⟩ = some (.int .u8 x.toNat) := by
      obtain ⟨vs, rfl, hcs⟩ := h.at (j := 0) (x := x) rfl
      have := hcs.get 0 rfl
      simpa [TByte] using this
    have B := big_any (h.set (a := ⟨p6, 0, none⟩) h6c h60 (.int .u8 x.toNat)) hl
    obtain ⟨n, hn⟩ : ∃ n, (x :: l).length = n := ⟨_, rfl⟩
    have hn0 : 0 < n := by rw [← hn]; simp
    have hi0 : (0 : Int) < (n : Int) := by omega
    rw [hn] at B h5 ⊢
    clear h hn
    go_enter Tryz.func137, Tryz.ntmps137
    go_wp2_with fail
    with_reducible refine B.mono ?_
    rintro e w1 ⟨rfl, rfl⟩
    go_wp2_with fail
    go_ret
    exact ⟨rfl, rfl⟩
end
end Go.Proofs.YtgcobbapaaihiaaGreat

set_option linter.unusedVariables false
set_option linter.unusedSimpArgs false
namespace Go.Proofs.YtgcobbapaaihiaaGreat
open Go.RowKit

/-- The first byte, if there is one. -/
def firstB (x : Int) : List UInt8 → Int
  | [] => x
  | y :: _ => y.toNat

section
variable {c : Col} {w : World}

set_option maxRecDepth 100000 in
set_option maxHeartbeats 1600000 in
theorem takeF_any (hok : Ok c w) {k p : Nat} {bs : List UInt8} {a : Nat} {f : Int × Int} (h : IsRd c k w p bs a f) (hk0 : k ≠ 0) (n : Nat) (hn : a + n ≤ bs.length) (h8 : n ≤ 8) {p5 p6 q : Nat} {x6 : Int} (a5 : At c w p5 q [.int .i64 n]) (a6 : At c w p6 q [.int .u8 x6]) (hq0 : q ≠ 0) (hqk : q ≠ k) (at0 : Int) :
    Calls Tryz.prog 135 #[.pointer (some ⟨p, 0, none⟩), .int .i64 n, .int .i64 at0, .func (.func 137) #[] #[.pointer (some ⟨p5, 0, none⟩), .pointer (some ⟨p6, 0, none⟩)]] w fun r w' => r = .returned (.int .u64 (bigN ((bs.drop a).take n))) ∧ At c w' p6 q [.int .u8 (firstB x6 ((bs.drop a).take n))] ∧ IsRd c k w' p bs (a + n) f ∧ Step (Two k q) c w c w' ∧ Ok c w' ∧ (At c w' p5 q [.int .i64 n] ∨ p5 = p6) := by
  obtain ⟨bv, x, ow⟩ := h.row
  have hle := h.le
  have hfew := h.few
  obtain ⟨va, vc, hbv, hcap, hcase⟩ : ∃ va vc, bv = .slice va bs.length vc ∧ bs.length ≤ vc ∧ ((va = none ∧ vc = 0) ∨ ∃ g, va = some ⟨g, 0, none⟩) := by
    rcases ow.form2 with ⟨rfl, rfl⟩ | ⟨g, cap, rfl, hc⟩
    · exact ⟨none, 0, rfl, Nat.le_refl _, .inl ⟨rfl, rfl⟩⟩
    · exact ⟨_, cap, rfl, hc, .inr ⟨g, rfl⟩⟩
  subst hbv
  have y0 := x.get (i := 0) rfl
  have y1 := x.get (i := 1) rfl
  have y1f := x.fz hok hk0 1
  have hcp : c p = k := x.col
  have hd : decide ((n : Int) ≤ (bs.length : Int) - (a : Int)) = true := by simp; omega
  have hw : IntKind.i64.wrap ((bs.length : Int) - (a : Int)) = (bs.length : Int) - (a : Int) := IntWalk.i64_in _ (by omega)
  have hw2 : IntKind.i64.wrap ((a : Int) + (n : Int)) = (a : Int) + (n : Int) := IntWalk.i64_in _ (by omega)
  have hw3 : IntKind.i64.wrap (a : Int) = (a : Int) := IntWalk.i64_in _ (by omega)
  have ht : ((a : Int) + (n : Int)).toNat - a = n := by omega
  have ha0 : (0 : Int) ≤ (a : Int) := by omega
  have ha1 : (a : Int) ≤ (a : Int) + (n : Int) := by omega
  have ha2 : (a : Int) + (n : Int) ≤ (vc : Int) := by omega
  have M := must_yes w.drew 6 at0
  have m1 := h.move hk0 (a' := a + n) hn
  rw [Int.natCast_add] at m1
  have z0 : (w.setCell ⟨p, 1, none⟩ (.int .i64 ((a : Int) + (n : Int)))).drew.drew.cell? ⟨p, 0, none⟩ = some (.slice va bs.length vc) := by
    show (w.setCell ⟨p, 1, none⟩ (.int .i64 ((a : Int) + (n : Int)))).cell? ⟨p, 0, none⟩ = _
    rw [World.cell?_setCell_other _ _ _ _ (by intro e; injection e with e1 e2; cases e2)]; exact y0
  have z1 : (w.setCell ⟨p, 1, none⟩ (.int .i64 ((a : Int) + (n : Int)))).drew.drew.cell? ⟨p, 1, none⟩ = some (.int .i64 ((a : Int) + (n : Int))) :=
    World.cell?_setCell_same' _ _ _ (by rw [y1]; rfl)
  have s1 : Step (One k) c w c ((w.setCell ⟨p, 1, none⟩ (.int .i64 ((a : Int) + (n : Int)))).drewN 2) := ((Step.refl (K := One k)).setCell (a := ⟨p, 1, none⟩) (.inr x.col) _).drewN 2
  have ok1 : Ok c ((w.setCell ⟨p, 1, none⟩ (.int .i64 ((a : Int) + (n : Int)))).drewN 2) := (hok.setCell _ _).drewN 2
  have ow1 : Own TByte 5 c 0 0 ((w.setCell ⟨p, 1, none⟩ (.int .i64 ((a : Int) + (n : Int)))).drewN 2) (.slice va bs.length vc) bs := (ow.set (a := ⟨p, 1, none⟩) (by show c p ≠ 0; omega) (by show c p ≠ 0; omega) _).kn (Step.rf.drewN 2)
  have hm2 := m1.kn (Step.rf.drewN 2)
  have HH := Lib.hid (And.intro hm2 s1)
  have OK := Lib.hid ok1
  have K1 : (fun W => W.cell? ⟨p, 0, none⟩ = some (.slice va bs.length vc) ∧ W.cell? ⟨p, 1, none⟩ = some (.int .i64 a)) w.drew := ⟨y0, y1⟩
  by_cases hca : vc = a
  · have HN := Lib.hid (show n = 0 by omega)
    have hca1 : (vc = a) = True := eq_true hca
    have hva : vc - a = 0 := by omega
    clear hca
    have a52 : At c ((w.setCell ⟨p, 1, none⟩ (.int .i64 ((a : Int) + (n : Int)))).drewN 2) p5 q [.int .i64 n] := (a5.offC p 1 _ (fun e => by have := a5.col; rw [e, hcp] at this; exact hqk this.symm)).keep (Step.rf.drewN 2) (fun h => h)
    have a62 : At c ((w.setCell ⟨p, 1, none⟩ (.int .i64 ((a : Int) + (n : Int)))).drewN 2) p6 q [.int .u8 x6] := (a6.offC p 1 _ (fun e => by have := a6.col; rw [e, hcp] at this; exact hqk this.symm)).keep (Step.rf.drewN 2) (fun h => h)
    have hLn : ((bs.drop a).take n).length = n := by rw [List.length_take, List.length_drop]; omega
    have SL : Sl TByte c 0 0 ((w.setCell ⟨p, 1, none⟩ (.int .i64 ((a : Int) + (n : Int)))).drewN 2) (.slice va n 0) ((bs.drop a).take n) := by rw [HN.out]; exact .inl ⟨by simp, _, _, rfl, Nat.zero_le _, fun _ => rfl⟩
    have B := num1_any SL (by omega) (by rw [hLn]; exact a52.c0) a62.c0 (a62.fz ok1 hq0 0) (by rw [a62.col]; exact hq0) (by rw [a62.col]; exact hq0)
    obtain ⟨W3, hW3⟩ : ∃ W3, (if (bs.drop a).take n = [] then ((w.setCell ⟨p, 1, none⟩ (.int .i64 ((a : Int) + (n : Int)))).drewN 2) else ((w.setCell ⟨p, 1, none⟩ (.int .i64 ((a : Int) + (n : Int)))).drewN 2).setCell ⟨p6, 0, none⟩ (.int .u8 ((((bs.drop a).take n).headD 0).toNat))) = W3 := ⟨_, rfl⟩
    rw [hW3] at B
    have hp6 : p ≠ p6 := fun e => by have := a6.col; rw [← e, hcp] at this; exact hqk this.symm
    have hp5 : p ≠ p5 := fun e => by have := a5.col; rw [← e, hcp] at this; exact hqk this.symm
    have hx : At c W3 p6 q [.int .u8 (firstB x6 ((bs.drop a).take n))] ∧ IsRd c k W3 p bs (a + n) f ∧ Step (Two k q) c w c W3 ∧ Ok c W3 ∧ W3.cell? ⟨p, 0, none⟩ = some (.slice va bs.length vc) ∧ W3.cell? ⟨p, 1, none⟩ = some (.int .i64 ((a : Int) + (n : Int))) := by
      rw [← hW3]
      obtain ⟨L, hL⟩ : ∃ L, (bs.drop a).take n = L := ⟨_, rfl⟩
      rw [hL]
      rcases L with _ | ⟨y, L⟩
      · rw [if_pos rfl]
        exact ⟨a62, hm2, s1.mono fun _ h => .inl h, ok1, z0, z1⟩
      · rw [if_neg (by simp)]
        exact ⟨a62.set0, hm2.keep (Step.set1 ⟨p6, 0, none⟩ _) (fun e => hqk (by have := a62.col; rw [show k = c p6 from e, this])) (fun e => hq0 (by have := a62.col; rw [← this]; exact e.symm)), (s1.mono fun _ h => .inl h).setCell (a := ⟨p6, 0, none⟩) (.inr (.inr a6.col)) _, ok1.setCell _ _, (World.cell?_setCell_other _ _ _ _ (by intro e; injection e with e1 e2; exact hp6 e1.symm)).trans z0, (World.cell?_setCell_other _ _ _ _ (by intro e; injection e with e1 e2; exact hp6 e1.symm)).trans z1⟩
    have h53 : At c W3 p5 q [.int .i64 n] ∨ p5 = p6 := by
      by_cases e : p5 = p6
      · exact .inr e
      · left
        rw [← hW3]
        split
        · exact a52
        · exact a52.offC p6 0 _ e
    have K3 : (fun W : World => W.cell? ⟨p, 0, none⟩ = some (.slice va bs.length vc) ∧ W.cell? ⟨p, 1, none⟩ = some (.int .i64 ((a : Int) + (n : Int)))) W3 := ⟨hx.2.2.2.2.1, hx.2.2.2.2.2⟩
    have HX := Lib.hid (And.intro hx.1 (And.intro hx.2.1 (And.intro hx.2.2.1 (And.intro hx.2.2.2.1 h53))))
    clear hx h53 a62 a52 a5 a6 hW3 hp5 hp6
    clear x ow hok h m1 hm2 s1 ok1 ow1 SL
    go_enter Tryz.func135, Tryz.ntmps135
    go_wp2_with fail
    refine region_planM (fun W => W.cell? ⟨p, 0, none⟩ = some (.slice va bs.length vc) ∧ W.cell? ⟨p, 1, none⟩ = some (.int .i64 a)) (fun _ => true) (by kernel_rfl) ?_
    refine tk2 0 _ 9 rfl rfl K1 ?_
    refine tk2 1 _ 10 rfl rfl K1 ?_
    refine tk2 2 _ 11 rfl rfl K1 ?_
    refine tk2 3 _ 12 rfl rfl K1 ?_
    refine tk2 4 _ 13 rfl rfl K1 ?_
    refine tk2 5 _ 14 rfl rfl K1 ?_
    refine tk2 6 _ 15 rfl rfl K1 ?_
    refine tk2 7 _ 16 rfl rfl K1 ?_
    refine tk2 8 _ 17 rfl rfl K1 ?_
    refine tk2 9 _ 18 rfl rfl K1 ?_
    refine tk2 10 _ 19 rfl rfl K1 ?_
    refine tk2 11 (.bool true) 20 rfl rfl K1 ?_
    refine tk2 12 _ 21 rfl rfl K1 ?_
    refine wpAnyM.one (i := 13) (by kernel_rfl) rfl (fun KQ hK => ?_)
    go_simp
    refine M.mono ?_
    rintro e w1 ⟨rfl, rfl⟩
    refine hK.out _ _ (fun _ => K1) ?_
    clear hK KQ
    (try simp only [Act.put, List.setIfInBounds_toArray, List.set_cons_zero, List.set_cons_succ])
    refine wpAnyM.done (by kernel_rfl) ?_ _
    go_wp2_with fail
    clear y0 y1 K1 M hd hw
    have K2 : (fun W => W.cell? ⟨p, 0, none⟩ = some (.slice va bs.length vc) ∧ W.cell? ⟨p, 1, none⟩ = some (.int .i64 ((a : Int) + (n : Int)))) (w.setCell ⟨p, 1, none⟩ (.int .i64 ((a : Int) + (n : Int)))).drew.drew := ⟨z0, z1⟩
    refine region_planM (fun W => W.cell? ⟨p, 0, none⟩ = some (.slice va bs.length vc) ∧ W.cell? ⟨p, 1, none⟩ = some (.int .i64 ((a : Int) + (n : Int)))) (fun _ => true) (by kernel_rfl) ?_
    refine tk2 0 _ 31 rfl rfl K2 ?_
    refine tk2 1 _ 32 rfl rfl K2 ?_
    refine tk2 2 _ 33 rfl rfl K2 ?_
    refine tk2 3 _ 34 rfl rfl K2 ?_
    refine tk2 4 _ 35 rfl rfl K2 ?_
    refine tk2 5 _ 36 rfl rfl K2 ?_
    refine tk2 6 _ 37 rfl rfl K2 ?_
    refine tk2 7 _ 38 rfl rfl K2 ?_
    refine tk2 8 _ 39 rfl rfl K2 ?_
    refine tk2 9 _ 40 rfl rfl K2 ?_
    refine tk2 10 (.int .i64 a) 41 rfl rfl K2 ?_
    refine tk2 11 _ 42 rfl rfl K2 ?_
    refine tk2 12 _ 43 rfl rfl K2 ?_
    refine tk2 13 _ 44 rfl rfl K2 ?_
    refine tk2 14 _ 45 rfl rfl K2 ?_
    refine tk2 15 (.slice va n 0) 46 rfl rfl K2 ?_
    refine wpAnyM.one (i := 16) (by kernel_rfl) rfl (fun KQ hK => ?_)
    go_simp
    refine B.mono ?_
    rintro e w1 ⟨rfl, rfl⟩
    refine hK.out _ _ (fun _ => K3) ?_
    clear hK KQ
    (try simp only [Act.put, List.setIfInBounds_toArray, List.set_cons_zero, List.set_cons_succ])
    refine wpAnyM.one (i := 17) (by kernel_rfl) rfl (fun KQ hK => ?_)
    go_simp
    refine hK.out _ _ (fun _ => K3) ?_
    clear hK KQ
    (try simp only [Act.put, List.setIfInBounds_toArray, List.set_cons_zero, List.set_cons_succ])
    refine wpAnyM.done (by kernel_rfl) ?_ _
    go_wp2_with fail
    go_ret
    exact ⟨rfl, HX.out⟩
  · obtain ⟨g, rfl⟩ : ∃ g, va = some ⟨g, 0, none⟩ := by
      rcases hcase with ⟨rfl, rfl⟩ | h
      · exact absurd (by omega) hca
      · exact h
    have a52 : At c ((w.setCell ⟨p, 1, none⟩ (.int .i64 ((a : Int) + (n : Int)))).drewN 2) p5 q [.int .i64 n] := (a5.offC p 1 _ (fun e => by have := a5.col; rw [e, hcp] at this; exact hqk this.symm)).keep (Step.rf.drewN 2) (fun h => h)
    have a62 : At c ((w.setCell ⟨p, 1, none⟩ (.int .i64 ((a : Int) + (n : Int)))).drewN 2) p6 q [.int .u8 x6] := (a6.offC p 1 _ (fun e => by have := a6.col; rw [e, hcp] at this; exact hqk this.symm)).keep (Step.rf.drewN 2) (fun h => h)
    have hLn : ((bs.drop a).take n).length = n := by rw [List.length_take, List.length_drop]; omega
    have SL : Sl TByte c 0 0 ((w.setCell ⟨p, 1, none⟩ (.int .i64 ((a : Int) + (n : Int)))).drewN 2) (.slice (some ⟨g, a, none⟩) n (vc - a)) ((bs.drop a).take n) := by have := ow1.sl.sub a n hn; rwa [Nat.zero_add] at this
    have B := num1_any SL (by omega) (by rw [hLn]; exact a52.c0) a62.c0 (a62.fz ok1 hq0 0) (by rw [a62.col]; exact hq0) (by rw [a62.col]; exact hq0)
    obtain ⟨W3, hW3⟩ : ∃ W3, (if (bs.drop a).take n = [] then ((w.setCell ⟨p, 1, none⟩ (.int .i64 ((a : Int) + (n : Int)))).drewN 2) else ((w.setCell ⟨p, 1, none⟩ (.int .i64 ((a : Int) + (n : Int)))).drewN 2).setCell ⟨p6, 0, none⟩ (.int .u8 ((((bs.drop a).take n).headD 0).toNat))) = W3 := ⟨_, rfl⟩
    rw [hW3] at B
    have hp6 : p ≠ p6 := fun e => by have := a6.col; rw [← e, hcp] at this; exact hqk this.symm
    have hp5 : p ≠ p5 := fun e => by have := a5.col; rw [← e, hcp] at this; exact hqk this.symm
    have hx : At c W3 p6 q [.int .u8 (firstB x6 ((bs.drop a).take n))] ∧ IsRd c k W3 p bs (a + n) f ∧ Step (Two k q) c w c W3 ∧ Ok c W3 ∧ W3.cell? ⟨p, 0, none⟩ = some (.slice (some ⟨g, 0, none⟩) bs.length vc) ∧ W3.cell? ⟨p, 1, none⟩ = some (.int .i64 ((a : Int) + (n : Int))) := by
      rw [← hW3]
      obtain ⟨L, hL⟩ : ∃ L, (bs.drop a).take n = L := ⟨_, rfl⟩
      rw [hL]
      rcases L with _ | ⟨y, L⟩
      · rw [if_pos rfl]
        exact ⟨a62, hm2, s1.mono fun _ h => .inl h, ok1, z0, z1⟩
      · rw [if_neg (by simp)]
        exact ⟨a62.set0, hm2.keep (Step.set1 ⟨p6, 0, none⟩ _) (fun e => hqk (by have := a62.col; rw [show k = c p6 from e, this])) (fun e => hq0 (by have := a62.col; rw [← this]; exact e.symm)), (s1.mono fun _ h => .inl h).setCell (a := ⟨p6, 0, none⟩) (.inr (.inr a6.col)) _, ok1.setCell _ _, (World.cell?_setCell_other _ _ _ _ (by intro e; injection e with e1 e2; exact hp6 e1.symm)).trans z0, (World.cell?_setCell_other _ _ _ _ (by intro e; injection e with e1 e2; exact hp6 e1.symm)).trans z1⟩
    have h53 : At c W3 p5 q [.int .i64 n] ∨ p5 = p6 := by
      by_cases e : p5 = p6
      · exact .inr e
      · left
        rw [← hW3]
        split
        · exact a52
        · exact a52.offC p6 0 _ e
    have K3 : (fun W : World => W.cell? ⟨p, 0, none⟩ = some (.slice (some ⟨g, 0, none⟩) bs.length vc) ∧ W.cell? ⟨p, 1, none⟩ = some (.int .i64 ((a : Int) + (n : Int)))) W3 := ⟨hx.2.2.2.2.1, hx.2.2.2.2.2⟩
    have HX := Lib.hid (And.intro hx.1 (And.intro hx.2.1 (And.intro hx.2.2.1 (And.intro hx.2.2.2.1 h53))))
    clear hx h53 a62 a52 a5 a6 hW3 hp5 hp6
    clear x ow hok h m1 hm2 s1 ok1 ow1 SL
    go_enter Tryz.func135, Tryz.ntmps135
    go_wp2_with fail
    refine region_planM (fun W => W.cell? ⟨p, 0, none⟩ = some (.slice (some ⟨g, 0, none⟩) bs.length vc) ∧ W.cell? ⟨p, 1, none⟩ = some (.int .i64 a)) (fun _ => true) (by kernel_rfl) ?_
    refine tk2 0 _ 9 rfl rfl K1 ?_
    refine tk2 1 _ 10 rfl rfl K1 ?_
    refine tk2 2 _ 11 rfl rfl K1 ?_
    refine tk2 3 _ 12 rfl rfl K1 ?_
    refine tk2 4 _ 13 rfl rfl K1 ?_
    refine tk2 5 _ 14 rfl rfl K1 ?_
    refine tk2 6 _ 15 rfl rfl K1 ?_
    refine tk2 7 _ 16 rfl rfl K1 ?_
    refine tk2 8 _ 17 rfl rfl K1 ?_
    refine tk2 9 _ 18 rfl rfl K1 ?_
    refine tk2 10 _ 19 rfl rfl K1 ?_
    refine tk2 11 (.bool true) 20 rfl rfl K1 ?_
    refine tk2 12 _ 21 rfl rfl K1 ?_
    refine wpAnyM.one (i := 13) (by kernel_rfl) rfl (fun KQ hK => ?_)
    go_simp
    refine M.mono ?_
    rintro e w1 ⟨rfl, rfl⟩
    refine hK.out _ _ (fun _ => K1) ?_
    clear hK KQ
    (try simp only [Act.put, List.setIfInBounds_toArray, List.set_cons_zero, List.set_cons_succ])
    refine wpAnyM.done (by kernel_rfl) ?_ _
    go_wp2_with fail
    clear y0 y1 K1 M hd hw
    have K2 : (fun W => W.cell? ⟨p, 0, none⟩ = some (.slice (some ⟨g, 0, none⟩) bs.length vc) ∧ W.cell? ⟨p, 1, none⟩ = some (.int .i64 ((a : Int) + (n : Int)))) (w.setCell ⟨p, 1, none⟩ (.int .i64 ((a : Int) + (n : Int)))).drew.drew := ⟨z0, z1⟩
    refine region_planM (fun W => W.cell? ⟨p, 0, none⟩ = some (.slice (some ⟨g, 0, none⟩) bs.length vc) ∧ W.cell? ⟨p, 1, none⟩ = some (.int .i64 ((a : Int) + (n : Int)))) (fun _ => true) (by kernel_rfl) ?_
    refine tk2 0 _ 31 rfl rfl K2 ?_
    refine tk2 1 _ 32 rfl rfl K2 ?_
    refine tk2 2 _ 33 rfl rfl K2 ?_
    refine tk2 3 _ 34 rfl rfl K2 ?_
    refine tk2 4 _ 35 rfl rfl K2 ?_
    refine tk2 5 _ 36 rfl rfl K2 ?_
    refine tk2 6 _ 37 rfl rfl K2 ?_
    refine tk2 7 _ 38 rfl rfl K2 ?_
    refine tk2 8 _ 39 rfl rfl K2 ?_
    refine tk2 9 _ 40 rfl rfl K2 ?_
    refine tk2 10 (.int .i64 a) 41 rfl rfl K2 ?_
    refine tk2 11 _ 42 rfl rfl K2 ?_
    refine tk2 12 _ 43 rfl rfl K2 ?_
    refine tk2 13 _ 44 rfl rfl K2 ?_
    refine tk2 14 _ 45 rfl rfl K2 ?_
    refine tk2 15 (.slice (some ⟨g, a, none⟩) n (vc - a)) 46 rfl rfl K2 ?_
    refine wpAnyM.one (i := 16) (by kernel_rfl) rfl (fun KQ hK => ?_)
    go_simp
    refine B.mono ?_
    rintro e w1 ⟨rfl, rfl⟩
    refine hK.out _ _ (fun _ => K3) ?_
    clear hK KQ
    (try simp only [Act.put, List.setIfInBounds_toArray, List.set_cons_zero, List.set_cons_succ])
    refine wpAnyM.one (i := 17) (by kernel_rfl) rfl (fun KQ hK => ?_)
    go_simp
    refine hK.out _ _ (fun _ => K3) ?_
    clear hK KQ
    (try simp only [Act.put, List.setIfInBounds_toArray, List.set_cons_zero, List.set_cons_succ])
    refine wpAnyM.done (by kernel_rfl) ?_ _
    go_wp2_with fail
    go_ret
    exact ⟨rfl, HX.out⟩
end
end Go.Proofs.YtgcobbapaaihiaaGreat

set_option linter.unusedVariables false
set_option linter.unusedSimpArgs false
namespace Go.Proofs.YtgcobbapaaihiaaGreat
open Go.RowKit

theorem minB_len8 (n : Nat) : (minB n).length ≤ 8 := minF_len 8 n

theorem num_bytes {bs rest : List UInt8} {a n : Nat} (hb : bs.drop a = numB n ++ rest) (ha : a ≤ bs.length) :
    (bs.drop a).take 1 = [UInt8.ofNat (minB n).length] ∧ (bs.drop (a + 1)).take (minB n).length = minB n ∧ a + 1 + (minB n).length ≤ bs.length ∧ bigN [UInt8.ofNat (minB n).length] = (minB n).length := by
  have h8 := minB_len8 n
  refine ⟨by rw [hb]; simp [numB], ?_, ?_, ?_⟩
  · rw [← List.drop_drop, hb]; simp [numB]
  · have := congrArg List.length hb
    rw [List.length_drop] at this
    simp [numB] at this
    omega
  · simp [bigN, bigF]; omega

section
variable {c : Col} {w : World}

set_option maxRecDepth 100000 in
set_option maxHeartbeats 1600000 in
theorem rnum_any (hok : Ok c w) {k p : Nat} {bs : List UInt8} {a : Nat} {f : Int × Int} (h : IsRd c k w p bs a f) (hk0 : k ≠ 0) (n : Nat) (hn : n < 9223372036854775808) {rest : List UInt8} (hb : bs.drop a = numB n ++ rest) (at0 : Int) :
    Calls Tryz.prog 97 #[.pointer (some ⟨p, 0, none⟩), .int .i64 at0] w fun r w' => r = .returned (.int .i64 n) ∧
      ∃ c', IsRd c' k w' p bs (a + (numB n).length) f ∧ Step (One k) c w c' w' ∧ Ok c' w' := by
  obtain ⟨b1, b2, b3, b4⟩ := num_bytes hb h.le
  have hm8 := minB_len8 n
  have hbn : bigN (minB n) = n := bigN_min 8 n (by omega)
  have hfst : firstB 1 (minB n) ≠ 0 := by
    rcases hm : minB n with _ | ⟨x, l⟩
    · simp [firstB]
    · have := min_head 8 n (by omega) x l hm
      simp only [firstB]
      intro e
      apply this
      exact UInt8.toNat_inj.1 (by simpa using e)
  have hlen : (numB n).length = 1 + (minB n).length := by simp [numB]; omega
  obtain ⟨m, hm⟩ : ∃ m, (minB n).length = m := ⟨_, rfl⟩
  obtain ⟨q, hq, hqc⟩ := hok.spare k
  have hq0 : q ≠ 0 := by omega
  have T1 : Calls Tryz.prog 135 #[.pointer (some ⟨p, 0, none⟩), .int .i64 1, .int .i64 at0, .func (.func 136) #[] #[]] w fun r w' => r = .returned (.int .u64 m) ∧ IsRd c k w' p bs (a + 1) f ∧ Step (One k) c w c w' ∧ Ok c w' := by
    have := takeN_any hok h hk0 1 (by omega) (by omega) at0
    rw [b1, b4, hm] at this
    exact this
  rw [hm] at b2 b3 hm8 hlen
  have hmi : (m : Int) ≤ 8 := by omega
  have hwm : IntKind.i64.wrap (m : Int) = (m : Int) := IntWalk.i64_in _ (by omega)
  have hwn : IntKind.i64.wrap (n : Int) = (n : Int) := IntWalk.i64_in _ (by omega)
  have hni : (n : Int) ≤ 9223372036854775807 := by omega
  have hfs : (firstB 1 (minB n) == 0) = false := beq_eq_false_iff_ne.2 hfst
  obtain ⟨fb, hfb⟩ : ∃ fb, firstB 1 (minB n) = fb := ⟨_, rfl⟩
  have HB := Lib.hid (And.intro b2 (And.intro b3 (And.intro hbn (And.intro hlen (And.intro hqc hfb)))))
  rw [hfb] at hfs
  have hfs2 : ¬ fb = 0 := by rw [← hfb]; exact hfst
  have hfs3 : (fb != 0) = true := by rw [bne_iff_ne]; exact hfs2
  clear h hok b1 b2 b3 b4 hbn hfst hm hlen hqc hb hfb
  go_enter Tryz.func97, Tryz.ntmps97
  go_wp2_with fail
  with_reducible refine T1.mono ?_
  rintro e w1 ⟨rfl, i1, s1, o1⟩
  obtain ⟨a2, o2, s2⟩ := newAt o1 [.int .i64 m] 3 q
  obtain ⟨a3, o3, s3⟩ := newAt o2 [.int .u8 1] 5 q
  rw [World.size_alloc] at a3 o3 s3
  have M1 := must_yes (w1.alloc (.cells #[.int .i64 m] 3)) 5 at0
  have a23 := a2.keep s3 (fun h => h)
  have T2 := takeF_any o3 ((i1.kn s2).kn s3) hk0 m HB.out.2.1 hm8 a23 a3 hq0 (by omega) at0
  rw [HB.out.1, HB.out.2.2.1, HB.out.2.2.2.2.2] at T2
  have z5 := a23.c0
  have z2 := a2.c0
  have S1 := Lib.hid (s1.trans (s2.trans s3).ofNo)
  clear T1 i1 s1 o1 a2 o2 s2 a3 o3 s3 a23
  go_wp2_with fail
  with_reducible refine M1.mono ?_
  rintro e w2 ⟨rfl, rfl⟩
  go_wp2_with fail
  with_reducible refine T2.mono ?_
  rintro e w3 ⟨rfl, a6, i3, s3, o3, _⟩
  have z6 := a6.c0
  have M2 := must_yes w3 5 at0
  have SX := Lib.hid (And.intro i3 (And.intro s3 o3))
  clear T2 M1 z5 z2 a6 i3 s3 o3
  go_wp2_with fail
  with_reducible refine M2.mono ?_
  rintro e w4 ⟨rfl, rfl⟩
  go_wp2_with fail
  go_ret
  obtain ⟨i3, s3, o3⟩ := SX.out
  obtain ⟨b2, b3, hbn, hlen, hqc, hfb⟩ := HB.out
  refine ⟨rfl, _, by rw [hlen, ← Nat.add_assoc]; exact i3, ?_, o3⟩
  refine ((S1.out.mono (K' := Two k q) fun _ h => .inl h).trans s3).drop fun b _ e => ?_
  rcases e with e | e
  · exact e
  · exact absurd e (hqc b)
end
end Go.Proofs.YtgcobbapaaihiaaGreat

set_option linter.unusedVariables false
set_option linter.unusedSimpArgs false
namespace Go.Proofs.YtgcobbapaaihiaaGreat
open Go.RowKit

theorem caught_idle (p : Nat) (w : World) :
    CallsD Tryz.prog 134 #[.pointer (some ⟨p, 0, none⟩)] .returning w fun e u' w' => e = .returned (.tuple #[]) ∧ u' = .returning ∧ w' = w := by
  refine callsD_of_wpS Tryz.func134 rfl fun c₀ cs hu => ?_
  apply wpS_seq
  apply wpS_region
  simp [wpOpsS, go_sem, recoverD, hu, Tryz.ntmps134, Exit.thenS]
  apply wpS_seq
  apply wpS_region
  simp [wpOpsS, go_sem, Exit.thenS]
  refine wpS_cond (t := false) (by simp [Act.eval, Array.replicate]) ?_
  simp only [Bool.false_eq_true, if_false]
  refine wpS_of_wp (wp_skip ?_)
  cases c₀
  simp_all [bodyPostS, results, Tryz.results134]
end Go.Proofs.YtgcobbapaaihiaaGreat

set_option linter.unusedVariables false
set_option linter.unusedSimpArgs false
namespace Go.Proofs.YtgcobbapaaihiaaGreat
open Go.RowKit

section
variable {c : Col} {w : World}

set_option maxRecDepth 100000 in
set_option maxHeartbeats 800000 in
theorem readsNum (hok : Ok c w) {k p : Nat} {bs : List UInt8} {a : Nat} {f : Int} (h : IsRd c k w p bs a (0, f)) (hk0 : k ≠ 0) (n : Nat) (hn : n < 9223372036854775808) {rest : List UInt8} (hb : bs.drop a = numB n ++ rest) :
    Calls Tryz.prog 96 #[.pointer (some ⟨p, 0, none⟩), .func (.func 97) #[.pointer (some ⟨p, 0, none⟩)] #[]] w fun r w' => r = .returned (.int .i64 n) ∧
      ∃ c', IsRd c' k w' p bs (a + (numB n).length) (0, f) ∧ Step (One k) c w c' w' ∧ Ok c' w' := by
  have R := rnum_any hok h hk0 n hn hb a
  obtain ⟨bv, x, ow⟩ := h.row
  have y1 := x.get (i := 1) rfl
  have y2 := x.get (i := 2) rfl
  have y4 := x.get (i := 4) rfl
  clear h x ow hok
  go_enter_defers Tryz.func96, Tryz.ntmps96
  go_wp2_with fail
  with_reducible refine R.mono ?_
  rintro e w1 ⟨rfl, c1, i1, s1, o1⟩
  have X := Lib.hid (And.intro i1 (And.intro s1 o1))
  clear R i1 s1 o1
  go_wp2_with fail
  refine leaves_cons (f := 134) (args := #[.pointer (some ⟨p, 0, none⟩)]) (by simp) (by simp [go_sem]) ?_
  refine (caught_idle p w1).mono ?_
  rintro e u' w'' ⟨rfl, rfl, rfl⟩
  exact ⟨_, results_tmp rfl _ _ _, rfl, c1, X.out⟩

theorem Num_any (hok : Ok c w) {k p : Nat} {bs : List UInt8} {a : Nat} {f : Int} (h : IsRd c k w p bs a (0, f)) (hk0 : k ≠ 0) (n : Nat) (hn : n < 9223372036854775808) {rest : List UInt8} (hb : bs.drop a = numB n ++ rest) :
    Calls Tryz.prog 51 #[.pointer (some ⟨p, 0, none⟩)] w fun r w' => r = .returned (.int .i64 n) ∧
      ∃ c', IsRd c' k w' p bs (a + (numB n).length) (0, f) ∧ Step (One k) c w c' w' ∧ Ok c' w' := by
  have R := readsNum hok h hk0 n hn hb
  have hmf : ∀ (fn : Fn) (first cap : Array Value) (w : World), (Instr.makeFunc fn first cap).run Tryz.prog w = .ok (.func fn first cap) w := fun _ _ _ _ => rfl
  clear h hok
  go_enter Tryz.func51, Tryz.ntmps51
  go_wp2_with fail
  with_reducible refine R.mono ?_
  rintro e w1 ⟨rfl, c1, X⟩
  have HX := Lib.hid X
  clear X R
  go_wp2_with fail
  go_ret
  exact ⟨rfl, c1, HX.out⟩
end
end Go.Proofs.YtgcobbapaaihiaaGreat
