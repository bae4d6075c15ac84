/- ServerTurns, part 03: lemmas, each with its own conditions. -/
import Derived.Test.YtgcobbapaaihiaaGreatSt01
import Derived.Test.YtgcobbapaaihiaaGreatSt02
import Derived.Test.YtgcobbapaaihiaaGreatProg
import Derived.Laws.RangeAny
import Derived.Deep.DeepFit
import Derived.Lib.AppendZeros
import Derived.Deep.MidRow
set_option linter.unusedVariables false
set_option linter.unusedSimpArgs false
namespace Go.Proofs.YtgcobbapaaihiaaGreat
open Go.RowKit

/-- May a rune stand in a name? -/
def plainI (r : Int) : Bool := (decide (97 ≤ r) && decide (r ≤ 122)) || (decide (48 ≤ r) && decide (r ≤ 57)) || (r == 45)
def plainAll (l : List UInt8) : Bool := l.all fun b => plainI b.toNat
/-- Is a text a chain's name? -/
def nameB (l : List UInt8) : Bool := decide (1 ≤ l.length) && decide (l.length ≤ 32) && plainAll l

theorem plain_high (r : Nat) (h : 128 ≤ r) : plainI r = false := by
  simp [plainI]; omega
theorem plain_no {l : List UInt8} {i : Nat} (hi : i < l.length) (h : plainI (l[i]'hi).toNat = false) : plainAll l = false := by
  unfold plainAll
  rw [List.all_eq_false]
  exact ⟨l[i], List.getElem_mem hi, by rw [h]; decide⟩

section
variable {c : Col} {w : World}

set_option maxHeartbeats 800000 in
theorem plain_any (r : Int) (w : World) : Calls Tryz.prog 158 #[.int .i32 r] w fun e w' => e = .returned (.bool (plainI r)) ∧ w' = w := by
  have hp := Lib.hid (show plainI r = ((decide (97 ≤ r) && decide (r ≤ 122)) || (decide (48 ≤ r) && decide (r ≤ 57)) || (r == 45)) from rfl)
  by_cases h1 : 97 ≤ r
  · by_cases h2 : r ≤ 122
    · go_enter Tryz.func158, Tryz.ntmps158
      go_wp2
      go_ret
      exact ⟨by (rw [hp.out]; simp [h1, h2]; try omega), rfl⟩
    · have h3 : 48 ≤ r := by omega
      have h4 : ¬ r ≤ 57 := by omega
      have h5 : ¬ r = 45 := by omega
      go_enter Tryz.func158, Tryz.ntmps158
      go_wp2
      go_ret
      exact ⟨by (rw [hp.out]; simp [h1, h2, h3, h4, h5]; try omega), rfl⟩
  · by_cases h3 : 48 ≤ r
    · by_cases h4 : r ≤ 57
      · go_enter Tryz.func158, Tryz.ntmps158
        go_wp2
        go_ret
        exact ⟨by (rw [hp.out]; simp [h1, h3, h4]; try omega), rfl⟩
      · have h5 : ¬ r = 45 := by omega
        go_enter Tryz.func158, Tryz.ntmps158
        go_wp2
        go_ret
        exact ⟨by (rw [hp.out]; simp [h1, h3, h4, h5]; try omega), rfl⟩
    · go_enter Tryz.func158, Tryz.ntmps158
      go_wp2
      go_ret
      exact ⟨by (rw [hp.out]; simp [h1, h3]; try omega), rfl⟩

set_option maxHeartbeats 800000 in
theorem each_any (l : List UInt8) (hl : l.length ≤ 1000000000) (w : World) :
    Calls Tryz.prog 157 #[.string ⟨l.toArray⟩, .func (.func 158) #[] #[]] w fun e w' => e = .returned (.bool (plainAll l)) ∧ ∃ pos, w' = w.iter ⟨l.toArray⟩ pos := by
  obtain ⟨s, hs⟩ : ∃ s : ByteArray, ⟨l.toArray⟩ = s := ⟨_, rfl⟩
  have hsz : s.size = l.length := by rw [← hs]; simp [ByteArray.size]
  have hget : ∀ (i : Nat) (h : i < s.size), (s[i]'h) = l[i]'(by omega) := fun i h => by subst hs; rfl
  rw [hs]
  have HS := Lib.hid (And.intro hs (And.intro hsz hget))
  clear hs
  go_enter Tryz.func157, Tryz.ntmps157
  go_wp2_with fail
  go_loopw [6] (fun _ wr => ∃ pos : Nat, pos ≤ l.length ∧ wr = w.iter s pos ∧ (l.take pos).all (fun b => plainI b.toNat) = true) (fun _ wr => s.size - wr.iterPos w.heap.size)
  case atStart => exact ⟨0, Nat.zero_le _, rfl, rfl⟩
  case round =>
    obtain ⟨pos, hp, rfl, hall⟩ := hrel
    by_cases hlt : pos < s.size
    · by_cases ha : (s[pos]'hlt).toNat < 128
      · have hnx : ∀ ty, (Instr.next (.pointer (some ⟨w.heap.size, 0, none⟩)) true ty).run Tryz.prog (w.iter s pos) = _ := fun ty => run_next_ascii w s pos ty hlt ha
        obtain ⟨b, hb⟩ : ∃ b, s[pos]'hlt = b := ⟨_, rfl⟩
        rw [hb] at hnx ha
        have PL := plain_any b.toNat (w.iter s (pos + 1))
        go_wp2_with fail
        with_reducible refine PL.mono ?_
        rintro e w1 ⟨rfl, rfl⟩
        have HB := Lib.hid hb
        rcases hpl : plainI b.toNat
        · have HP := Lib.hid hpl
          go_wp2_with fail
          go_ret
          refine ⟨?_, _, rfl⟩
          rw [plain_no (i := pos) (by rw [← HS.out.2.1]; exact hlt) (by rw [← HS.out.2.2 pos hlt, HB.out]; exact HP.out)]
          rfl
        · have HP := Lib.hid hpl
          go_wp2_with fail
          go_roundw
          case rel =>
            refine ⟨pos + 1, by omega, rfl, ?_⟩
            rw [List.take_add_one, List.getElem?_eq_getElem (by omega), ← HS.out.2.2 pos hlt, HB.out]
            simp only [Option.toList_some, List.all_append, hall, List.all_cons, List.all_nil, HP.out, Bool.and_self]
          case measure => simp; omega
      · have hd := decode_high s pos hlt (by omega)
        have hnx : ∀ ty, (Instr.next (.pointer (some ⟨w.heap.size, 0, none⟩)) true ty).run Tryz.prog (w.iter s pos) = _ := fun ty => run_next_any w s pos ty hlt
        obtain ⟨r, hr⟩ : ∃ r, (Utf8.decode s pos).1 = r := ⟨_, rfl⟩
        obtain ⟨wd, hwd⟩ : ∃ r, (Utf8.decode s pos).2 = r := ⟨_, rfl⟩
        rw [hr, hwd] at hnx
        rw [hr] at hd
        have PL := plain_any r (w.iter s (pos + wd))
        rw [plain_high r (by omega)] at PL
        have HA := Lib.hid ha
        clear hd hr hwd ha
        go_wp2_with fail
        with_reducible refine PL.mono ?_
        rintro e w1 ⟨rfl, rfl⟩
        go_wp2_with fail
        go_ret
        refine ⟨?_, _, rfl⟩
        rw [plain_no (i := pos) (by rw [← HS.out.2.1]; exact hlt) (by rw [← HS.out.2.2 pos hlt]; exact plain_high _ (by have := HA.out; omega))]
        rfl
    · have hnx : ∀ ty, (Instr.next (.pointer (some ⟨w.heap.size, 0, none⟩)) true ty).run Tryz.prog (w.iter s pos) = _ := fun ty => run_next_end w s pos ty hlt
      have hpe : pos = l.length := by omega
      rw [hpe, List.take_length] at hall
      have HA := Lib.hid hall
      clear hall hpe
      go_wp2_with fail
      go_ret
      exact ⟨by rw [show plainAll l = true from HA.out]; rfl, _, rfl⟩

theorem name_any (l : List UInt8) (hl : l.length ≤ 1000000000) (w : World) :
    Calls Tryz.prog 127 #[.string ⟨l.toArray⟩] w fun e w' => e = .returned (.bool (nameB l)) ∧ (w' = w ∨ ∃ pos, w' = w.iter ⟨l.toArray⟩ pos) := by
  have hsz : (⟨l.toArray⟩ : ByteArray).size = l.length := by simp [ByteArray.size]
  have E := each_any l hl w
  obtain ⟨s, hs⟩ : ∃ s : ByteArray, ⟨l.toArray⟩ = s := ⟨_, rfl⟩
  rw [hs] at hsz E ⊢
  have hN := Lib.hid (show nameB l = (decide (1 ≤ l.length) && decide (l.length ≤ 32) && plainAll l) from rfl)
  by_cases h1 : 1 ≤ l.length
  · by_cases h2 : l.length ≤ 32
    · have i1 : (1 : Int) ≤ (l.length : Int) := by omega
      have i2 : (l.length : Int) ≤ 32 := by omega
      clear hs
      go_enter Tryz.func127, Tryz.ntmps127
      go_wp2_with fail
      with_reducible refine E.mono ?_
      rintro e w1 ⟨rfl, pos, rfl⟩
      go_wp2_with fail
      go_ret
      exact ⟨by rw [hN.out]; simp [h1, h2], .inr ⟨pos, rfl⟩⟩
    · have i1 : (1 : Int) ≤ (l.length : Int) := by omega
      have i2 : ¬ (l.length : Int) ≤ 32 := by omega
      clear hs E
      go_enter Tryz.func127, Tryz.ntmps127
      go_wp2_with fail
      go_ret
      exact ⟨by (rw [hN.out]; simp [h1]; try omega), .inl rfl⟩
  · have i1 : ¬ (1 : Int) ≤ (l.length : Int) := by omega
    clear hs E
    go_enter Tryz.func127, Tryz.ntmps127
    go_wp2_with fail
    go_ret
    exact ⟨by (rw [hN.out]; simp; try omega), .inl rfl⟩
end
end Go.Proofs.YtgcobbapaaihiaaGreat

set_option linter.unusedVariables false
set_option linter.unusedSimpArgs false
namespace Go.Proofs.YtgcobbapaaihiaaGreat
open Go.RowKit

theorem infoU8 : (Tryz.prog.info? 5).map (fun i => (i.zero, i.size, i.bytes)) = some (some (.int .u8 0), 1, 1) := by kernel_rfl

/-- A slice of bytes, as an element. -/
def TBs : Ty (List UInt8) where
  n := 1
  rd := fun c k w vs l => ∃ v, vs = [v] ∧ Sl TByte c k k w v l
  len := by rintro _ _ _ _ _ ⟨v, rfl, _⟩; rfl
  one := by
    rintro _ _ _ _ _ ⟨v, rfl, h⟩ u hu
    obtain ⟨a, cap, rfl, _⟩ := h.form
    simp at hu; subst hu; rfl
  keep := by
    rintro K c w c' w' k vs l hs hk ⟨v, rfl, h⟩
    exact ⟨v, rfl, h.keep hs hk hk⟩
  turn := by
    rintro c q k w vs l ⟨v, rfl, h⟩
    exact ⟨v, rfl, h.turnAll⟩

/-- A row with room, and nothing in it yet. -/
theorem Own.room {α : Type} (T : Ty α) (e : TypeId) {c : Col} {w w1 : World} (hok : Ok c w1) (hs : Step No c w c w1) (k k2 : Nat) (cur : Array Value) (cap : Nat) (hcap : cap ≤ maxLen) (hcur : cur.size = cap * T.n) :
    Own T e (c.put w1.heap.size k) k k2 (w1.alloc (.cells cur e)) (.slice (some ⟨w1.heap.size, 0, none⟩) 0 cap) [] ∧ Ok (c.put w1.heap.size k) (w1.alloc (.cells cur e)) ∧ Step No c w (c.put w1.heap.size k) (w1.alloc (.cells cur e)) := by
  have hnew : (w1.alloc (.cells cur e)).heap[w1.heap.size]? = some (.cells cur e (0, 0)) := heap_alloc_new w1 _
  refine ⟨⟨[], rfl, by simp, by simp, ⟨by simp, .inr ⟨w1.heap.size, cap, cur, rfl, Nat.zero_le _, hnew, Nat.zero_le _, hcap, hcur, by simp⟩⟩, fun b hb => by simp [Value.ownBlock] at hb; subst hb; simp⟩, (hok.alloc _).put (by simp) (fun o => by unfold World.frozen?; rw [hnew]; simp), (hs.alloc _).put (.inl hs.size)⟩

theorem zeroCells_size (n : Nat) : (Builtin.zeroCells #[Value.int .u8 0] n).size = n := by
  simp [Builtin.zeroCells]

section
variable {c : Col} {w : World}

theorem grow_any (hok : Ok c w) (n : Nat) (hn : n ≤ 1000000000) (k : Nat) :
    Calls Tryz.prog 214 #[.slice none 0 0, .int .i64 n] w fun r w' => ∃ v, r = .returned v ∧ ∃ c', Own TByte 5 c' k 0 w' v [] ∧ Step No c w c' w' ∧ Ok c' w' := by
  by_cases h0 : n = 0
  · subst h0
    go_enter Tryz.func214, Tryz.ntmps214
    go_wp2
    go_ret
    exact ⟨_, rfl, c, Own.nil _ _ _ _ _ _, Step.rf, hok⟩
  · obtain ⟨i, hi, hz, hs1, hb1⟩ := info_parts infoU8
    have hp : 0 < n := by omega
    have hi0 : ¬ (n : Int) < 0 := by omega
    have hi1 : (0 : Int) < (n : Int) := by omega
    have hw : IntKind.i64.wrap ((n : Int) - 0) = (n : Int) := by rw [Int.sub_zero]; exact IntWalk.i64_in _ (by omega)
    have hr := fun W => Go.Lib.run_append_nil_zeros (P := Tryz.prog) W 26 3 26 5 i (.int .u8 0) .i64 .i64 Tryz.underlying26 Tryz.underlying3 hi hz n hp (by omega) (by omega) (by rw [hb1]; omega)
    go_enter Tryz.func214, Tryz.ntmps214
    go_wp2_with (at_builtin; refine Go.Lib.wpList_append_run _ rfl _ _ 26 3 rfl _ _ rfl rfl _ _ (hr w) ?_)
    go_ret
    have hcap := grownCap_le_maxLen w n 0 5 (by simp only [maxLen]; omega)
    have hge := grownCap_ge w n 0 5
    obtain ⟨o1, o2, o3⟩ := Own.room TByte 5 hok Step.rf k 0 (Builtin.zeroCells #[Value.int .u8 0] n ++ Builtin.zeroCells #[Value.int .u8 0] (grownCap w n 0 5 - n)) (grownCap w n 0 5) hcap (by rw [Array.size_append, zeroCells_size, zeroCells_size]; show _ = _ * 1; omega)
    exact ⟨_, rfl, _, o1.kn Step.rf.drew, o3.drew, o2.drew⟩

theorem flat_succ {ls : List (List UInt8)} {j : Nat} {x : List UInt8} (h : ls[j]? = some x) : (ls.take (j + 1)).flatten = (ls.take j).flatten ++ x := by
  rw [List.take_add_one, h]; simp

theorem flat_le (ls : List (List UInt8)) (j : Nat) : (ls.take j).flatten.length ≤ ls.flatten.length := by
  have : ls.flatten = (ls.take j).flatten ++ (ls.drop j).flatten := by rw [← List.flatten_append, List.take_append_drop]
  rw [this, List.length_append]; omega

set_option maxHeartbeats 800000 in
theorem concat_any (hok : Ok c w) {kx : Nat} {v : Value} {ls : List (List UInt8)} (h : Sl TBs c kx 0 w v ls) (hl : 0 < ls.length) (hn : ls.length ≤ 1000) (ht : ls.flatten.length ≤ 1000000000) (k : Nat) :
    Calls Tryz.prog 209 #[v] w fun r w' => ∃ v', r = .returned v' ∧ ∃ c', Own TByte 5 c' k 0 w' v' ls.flatten ∧ Step No c w c' w' ∧ Ok c' w' := by
  obtain ⟨q, hq, hqc⟩ := hok.spare kx
  obtain ⟨g, off, cap, rfl, _⟩ := h.ex hl
  obtain ⟨tot, htot⟩ : ∃ n, ls.flatten.length = n := ⟨_, rfl⟩
  rw [htot] at ht
  have G := grow_any hok tot ht q
  have hq0 : q ≠ 0 := by omega
  have HQ := Lib.hid hqc
  have hok' := Lib.hid hok
  clear hqc hok
  go_enter Tryz.func209, Tryz.ntmps209
  go_wp2
  go_loopw [3, 11] (fun s i wr => ∃ (j : Nat), j ≤ ls.length ∧ i = .int .i64 j ∧ s = .int .i64 ((ls.take j).flatten.length : Nat) ∧ w = wr) (fun _ i _ => ls.length - (intOf i).toNat)
  case atStart => exact ⟨0, Nat.zero_le _, rfl, by simp, rfl⟩
  case round =>
    obtain ⟨j, hj, rfl, rfl, rfl⟩ := hrel
    by_cases hlt : j < ls.length
    · obtain ⟨x, hx⟩ : ∃ x, ls[j]? = some x := ⟨ls[j], by simp [hlt]⟩
      obtain ⟨vs, ⟨vj, rfl, hvj⟩, hcs⟩ := h.at hx
      obtain ⟨a, n, rfl, _⟩ := hvj.form
      have y0 := hcs.get 0 rfl
      have hle := flat_le ls (j + 1)
      rw [htot] at hle
      have hsum : ((ls.take (j + 1)).flatten.length : Int) = ((ls.take j).flatten.length : Nat) + (x.length : Int) := by rw [flat_succ hx, List.length_append]; push_cast; rfl
      obtain ⟨m, hm⟩ : ∃ m, (ls.take j).flatten.length = m := ⟨_, rfl⟩
      obtain ⟨m', hm'⟩ : ∃ m, (ls.take (j + 1)).flatten.length = m := ⟨_, rfl⟩
      rw [hm'] at hle
      rw [hm', hm] at hsum
      rw [hm]
      have hj0 : (0 : Int) ≤ (j : Int) := by omega
      have hj1 : (j : Int) < (ls.length : Int) := by omega
      have hw : IntKind.i64.wrap ((m : Int) + (x.length : Int)) = (m' : Int) := by rw [← hsum]; exact IntWalk.i64_in _ (by omega)
      have hneg : ¬ (m' : Int) < 0 := by omega
      have HM := Lib.hid hm'
      simp only [TBs, Nat.mul_one, Nat.add_zero] at y0
      clear h hcs hvj hx hm hm' hsum
      go_wp2_with fail
      go_roundw
      case rel => exact ⟨j + 1, by omega, by go_num, by rw [HM.out], trivial⟩
      case measure => simp [intOf]; omega
    · have hjl : j = ls.length := by omega
      subst hjl
      rw [List.take_length, htot]
      have Hh := Lib.hid (And.intro h htot)
      clear h htot
      go_wp2_with fail
      with_reducible refine G.mono ?_
      rintro e w1 ⟨v1, rfl, c1, p1, s1, o1⟩
      obtain ⟨va1, vc1, rfl, _⟩ := p1.sl.form
      have P0 := Lib.hid (And.intro p1 (And.intro s1 o1))
      clear p1 s1 o1 G
      go_wp2_with fail
      go_loopw [6, 27] (fun vb i wr => ∃ (j : Nat) (cr : Col), j ≤ ls.length ∧ i = .int .i64 j ∧ Own TByte 5 cr q 0 wr vb (ls.take j).flatten ∧ Step (One q) c w cr wr ∧ Ok cr wr) (fun _ i _ => ls.length - (intOf i).toNat)
      case atStart => exact ⟨0, c1, Nat.zero_le _, rfl, by simpa using P0.out.1, P0.out.2.1.ofNo, P0.out.2.2⟩
      case round =>
        obtain ⟨j, cr, hj2, rfl, ow, st, ok⟩ := hrel
        clear hj
        by_cases hlt2 : j < ls.length
        · obtain ⟨x, hx⟩ : ∃ x, ls[j]? = some x := ⟨ls[j], by simp [hlt2]⟩
          have h1 := Hh.out.1.keep st (show ¬ kx = q by omega) (show ¬ 0 = q by omega)
          obtain ⟨vs, ⟨vj, rfl, hvj⟩, hcs⟩ := h1.at hx
          have y0 := hcs.get 0 rfl
          simp only [TBs, Nat.mul_one, Nat.add_zero] at y0
          obtain ⟨va, vc, rfl, _⟩ := ow.sl.form
          have hle := flat_le ls (j + 1)
          rw [Hh.out.2, flat_succ hx] at hle
          have hn1 : (ls.take j).flatten.length + x.length ≤ maxLen := by rw [List.length_append] at hle; simp only [maxLen]; omega
          have hn2 : ((ls.take j).flatten.length + x.length) * 1 ≤ 140737488355328 := by rw [List.length_append] at hle; omega
          have hq1 : (0 : Nat) ≠ q := by omega
          have hj0 : (0 : Int) ≤ (j : Int) := by omega
          have hj1 : (j : Int) < (ls.length : Int) := by omega
          have HX := Lib.hid (And.intro hx st)
          obtain ⟨pre, hpre⟩ : ∃ l, (ls.take j).flatten = l := ⟨_, rfl⟩
          have HP := Lib.hid hpre
          rw [hpre] at ow hn1 hn2 ⊢
          clear h1 hcs hx st hle hpre
          go_wp2_with (at_builtin; refine wpList_app TByte ok rfl _ _ 26 rfl 5 Tryz.underlying26 infoU8 rfl (by decide) rfl rfl ow hvj hq1 hn1 hn2 ?_; rintro v6 w6 c6 b1 b2 b3 -; have B := Lib.hid (And.intro b1 (And.intro b2 b3)); clear b1 b2 b3 ow hvj ok)
          go_roundw
          case rel =>
            obtain ⟨b1, b2, b3⟩ := B.out
            exact ⟨j + 1, c6, by omega, by go_num, by rw [flat_succ HX.out.1, HP.out]; exact b1, HX.out.2.trans b2, b3⟩
          case measure => simp [intOf]; omega
        · have hjl : j = ls.length := by omega
          subst hjl
          rw [List.take_length] at ow
          have B := Lib.hid (And.intro ow (And.intro st ok))
          clear ow st ok
          go_wp2_with fail
          go_ret
          obtain ⟨ow, st, ok⟩ := B.out
          exact ⟨_, rfl, Own.out1 ow st ok HQ.out (by omega) (by omega) k⟩
end
end Go.Proofs.YtgcobbapaaihiaaGreat

set_option linter.unusedVariables false
set_option linter.unusedSimpArgs false
namespace Go.Proofs.YtgcobbapaaihiaaGreat
open Go.RowKit

/-- Bytes as cells. -/
def bC (l : List UInt8) : List Value := l.map fun x => .int .u8 x.toNat
theorem bC_len (l : List UInt8) : (bC l).length = l.length := by simp [bC]
theorem bC_app (l m : List UInt8) : bC (l ++ m) = bC l ++ bC m := by simp [bC]
theorem bC_get {l : List UInt8} {j : Nat} {x : UInt8} (h : l[j]? = some x) : (bC l)[j]? = some (.int .u8 x.toNat) := by simp [bC, h]

theorem At.setN {c : Col} {W : World} {b k : Nat} {vs : List Value} (h : At c W b k vs) {i : Nat} (hi : i < vs.length) (u : Value) : At c (W.setCell ⟨b, i, none⟩ u) b k (vs.set i u) := by
  refine ⟨h.col, by rw [size_setCell]; exact h.lt, ?_⟩
  intro j x hx
  by_cases e : i = j
  · subst e
    rw [List.getElem?_set_self hi] at hx
    cases hx
    have := h.cells i vs[i] (by rw [List.getElem?_eq_getElem])
    rw [Nat.zero_add] at this ⊢
    exact World.cell?_setCell_same' _ _ _ (by rw [this]; rfl)
  · rw [List.getElem?_set_ne e] at hx
    rw [World.cell?_setCell_other _ _ _ _ (by intro h; injection h with h1 h2; omega)]
    exact h.cells j x hx

theorem At.get {c : Col} {W : World} {b k : Nat} {vs : List Value} (h : At c W b k vs) {i : Nat} {u : Value} (hi : vs[i]? = some u) : W.cell? ⟨b, i, none⟩ = some u := by
  have := h.cells i u hi
  rwa [Nat.zero_add] at this

/-- A slice of an array of bytes. -/
theorem At.sl {c : Col} {W : World} {b k k2 : Nat} {l : List UInt8} (h : At c W b k (bC l)) (j n : Nat) (hj : j + n ≤ l.length) (cap : Nat) (hc : n ≤ cap) (hm : cap ≤ maxLen) :
    Sl TByte c k k2 W (.slice (some ⟨b, j, none⟩) n cap) ((l.drop j).take n) := by
  have hlen : ((l.drop j).take n).length = n := by rw [List.length_take, List.length_drop]; omega
  refine .inr ⟨b, j, cap, by rw [hlen], by rw [hlen]; exact hc, hm, h.col, h.lt, fun i x hi => ⟨[.int .u8 x.toNat], rfl, ?_⟩⟩
  intro i' u hu
  have hi0 : i' = 0 := by have := (List.getElem?_eq_some_iff.1 hu).1; simp at this; omega
  subst hi0
  simp at hu
  subst hu
  have hin : i < n := by have := (List.getElem?_eq_some_iff.1 hi).1; omega
  rw [List.getElem?_take_of_lt hin, List.getElem?_drop] at hi
  have := h.get (bC_get hi)
  simpa [TByte] using this

/-- A number's bytes, the highest first, none ahead that is zero. -/
def minF : Nat → Nat → List UInt8
  | 0, _ => []
  | f + 1, n => if n = 0 then [] else minF f (n / 256) ++ [UInt8.ofNat (n % 256)]
def minB (n : Nat) : List UInt8 := minF 8 n
/-- A number's form. -/
def numB (n : Nat) : List UInt8 := UInt8.ofNat (minB n).length :: minB n

theorem minF_zero : ∀ f, minF f 0 = []
  | 0 => rfl
  | f + 1 => by simp [minF]
theorem minF_len : ∀ f n, (minF f n).length ≤ f
  | 0, n => by simp [minF]
  | f + 1, n => by
    simp only [minF]
    split
    · simp
    · have := minF_len f (n / 256)
      simp; exact this

theorem sizeU8 (W : World) : (sizeOf 5).run Tryz.prog W = .ok 1 W := by
  obtain ⟨i, hi, hz, hs1, hb1⟩ := info_parts infoU8
  simp [sizeOf, typeInfo, hi, hs1]

/-- A slice of an array of bytes, from a place on. -/
theorem run_arr {t : TypeId} {n : Nat} (ht : Tryz.prog.underlying t = some (.array n 5)) (W : World) (b i : Nat) (h : i ≤ n) (h0 : i < n) :
    (Instr.sliceAt t (.pointer (some ⟨b, 0, none⟩)) (some (.int .i64 i)) none none).run Tryz.prog W = .ok (.slice (some ⟨b, i, none⟩) (n - i) (n - i)) W := by
  have ha : Tryz.prog.arrayLen t = n := by simp [Program.arrayLen, ht]
  have he : Tryz.prog.elem t = 5 := by simp [Program.elem, ht]
  rw [run_sliceAt_array_l W t ⟨b, 0, none⟩ (by rw [ha, he]; exact ht) .i64 i (by omega) (by rw [ha]; omega), he, sizeU8, ha]
  simp only [Result.andThen, slicedAt, Int.toNat_natCast]
  rw [if_neg (by omega)]
  by_cases h0 : i = 0
  · subst h0; simp [Addr.add]
  · simp [Addr.add, h0]
theorem run_arr0 {t : TypeId} {n : Nat} (ht : Tryz.prog.underlying t = some (.array n 5)) (W : World) (b : Nat) :
    (Instr.sliceAt t (.pointer (some ⟨b, 0, none⟩)) none none none).run Tryz.prog W = .ok (.slice (some ⟨b, 0, none⟩) n n) W := by
  have ha : Tryz.prog.arrayLen t = n := by simp [Program.arrayLen, ht]
  have he : Tryz.prog.elem t = 5 := by simp [Program.elem, ht]
  rw [run_sliceAt_array_all W t ⟨b, 0, none⟩ (by rw [ha, he]; exact ht), he, sizeU8, ha]
  simp [Result.andThen, slicedAt, Addr.add]

theorem Sl.out1 {α : Type} {T : Ty α} {c c1 : Col} {w w1 : World} {q k2 : Nat} {v : Value} {l : List α} (h : Sl T c1 q k2 w1 v l) (hs : Step (One q) c w c1 w1) (ho : Ok c1 w1) (hq : ∀ b, c b ≠ q) (h0 : q ≠ 0) (hqq : k2 ≠ q)
    (k : Nat) : ∃ c', Sl T c' k k2 w1 v l ∧ Step No c w c' w1 ∧ Ok c' w1 :=
  ⟨c1.turn q k, h.turn hqq, (hs.turn rfl).own hq, ho.turn h0⟩

theorem u8_nat (m : Nat) : ((m : Int) % 256) = ((UInt8.ofNat (m % 256)).toNat : Int) := by
  rw [show (UInt8.ofNat (m % 256)).toNat = m % 256 by simp]
  omega

section
variable {c : Col} {w : World}

set_option maxRecDepth 100000 in
set_option maxHeartbeats 800000 in
theorem number_any (hok : Ok c w) (n : Nat) (hn : n < 9223372036854775808) (k : Nat) :
    Calls Tryz.prog 201 #[.int .i64 n] w fun r w' => ∃ v, r = .returned v ∧ ∃ c', Sl TByte c' k 0 w' v (numB n) ∧ Step No c w c' w' ∧ Ok c' w' := by
  obtain ⟨q, hq, hqc⟩ := hok.spare 0
  obtain ⟨a1, o1, s1⟩ := newAt hok (bC (List.replicate 9 0)) 282 q
  have hq0 : q ≠ 0 := by omega
  have H1 := Lib.hid (And.intro a1 (And.intro o1 (And.intro s1 hqc)))
  clear a1 o1 s1 hqc hok
  go_enter Tryz.func201, Tryz.ntmps201
  go_wp2_with fail
  go_loopw [0, 4] (fun vn vk wr => ∃ (m j : Nat) (l : List UInt8), vn = .int .i64 m ∧ vk = .int .i64 j ∧ l.length = j ∧ j ≤ 8 ∧ m < 256 ^ (8 - j) ∧ minB n = minF (8 - j) m ++ l ∧ At (c.put w.heap.size q) wr w.heap.size q (bC (List.replicate (9 - j) 0 ++ l)) ∧ Step No c w (c.put w.heap.size q) wr ∧ Ok (c.put w.heap.size q) wr) (fun vn _ _ => (intOf vn).toNat)
  case atStart => exact ⟨n, 0, [], rfl, rfl, rfl, Nat.zero_le _, by simpa using (show n < 256 ^ 8 by omega), by simp [minB], H1.out.1, H1.out.2.2.1, H1.out.2.1⟩
  case round =>
    obtain ⟨m, j, l, rfl, rfl, hlj, hj, hm, he, at1, st, ok⟩ := hrel
    obtain ⟨i, hi⟩ : ∃ i, 8 - j = i := ⟨_, rfl⟩
    have hji : j + i = 8 := by omega
    have h9 : 9 - j = i + 1 := by omega
    rw [hi] at hm he
    rw [h9] at at1
    have y0 : wr.cell? ⟨w.heap.size, i, none⟩ = some (.int .u8 0) := at1.get (bC_get (x := 0) (by rw [List.getElem?_append_left (by simp)]; simp))
    have yf := at1.fz ok hq0 i
    have hwi : IntKind.i64.wrap (8 - (j : Int)) = (i : Int) := by rw [show (8 : Int) - j = i by omega]; exact IntWalk.i64_in _ (by omega)
    have hi0 : (0 : Int) ≤ (i : Int) := by omega
    have hi1 : (i : Int) < 9 := by omega
    have hset : ∀ u : UInt8, At (c.put w.heap.size q) (wr.setCell ⟨w.heap.size, i, none⟩ (.int .u8 u.toNat)) w.heap.size q (bC (List.replicate i 0 ++ (u :: l))) := fun u => by
      have := at1.setN (i := i) (by rw [bC_len]; simp; omega) (.int .u8 u.toNat)
      rw [show (bC (List.replicate (i + 1) 0 ++ l)).set i (.int .u8 u.toNat) = bC (List.replicate i 0 ++ (u :: l)) by
        rw [List.replicate_succ', List.append_assoc, bC_app, bC_app, List.set_append_right _ _ (by rw [bC_len]; simp)]
        simp [bC]] at this
      exact this
    have hst : ∀ u, Step No c w (c.put w.heap.size q) (wr.setCell ⟨w.heap.size, i, none⟩ u) := fun u => st.setCell (.inl (Nat.le_refl _)) u
    have hok2 : ∀ u, Ok (c.put w.heap.size q) (wr.setCell ⟨w.heap.size, i, none⟩ u) := fun u => ok.setCell _ _
    have HS := Lib.hid (And.intro hset (And.intro hst hok2))
    clear at1 st ok hset hst hok2
    by_cases hz : m = 0
    · subst hz
      have HE := Lib.hid he
      have hu : IntKind.u8.wrap (j : Int) = ((UInt8.ofNat j).toNat : Int) := by
        rw [IntKind.wrap_u8]; simp
      have hsl := fun W => run_arr (t := 282) Tryz.underlying282 W w.heap.size i (by omega) (by omega)
      clear he hm
      go_wp2_with fail
      go_ret
      have hl : minB n = l := by rw [HE.out, minF_zero]; rfl
      have hv : ((j : Int) % 256) = ((UInt8.ofNat j).toNat : Int) := by rw [u8_nat, Nat.mod_eq_of_lt (by omega : j < 256)]
      rw [hv]
      have h2 := (HS.out.1 (UInt8.ofNat j)).sl (k2 := 0) i (9 - i) (by simp; omega) (9 - i) (Nat.le_refl _) (by simp only [maxLen]; omega)
      rw [List.drop_append_of_le_length (by simp), List.drop_eq_nil_of_le (by simp), List.nil_append, List.take_of_length_le (by simp; omega)] at h2
      have hnum : numB n = UInt8.ofNat j :: l := by rw [numB, hl, hlj]
      rw [hnum]
      exact ⟨_, rfl, Sl.out1 h2 (HS.out.2.1 _).ofNo (HS.out.2.2 _) H1.out.2.2.2 hq0 (by omega) k⟩
    · have hm0 : 0 < m := by omega
      have hmi : (0 : Int) < (m : Int) := by omega
      have hip : 0 < i := by
        rcases Nat.eq_zero_or_pos i with h | h
        · subst h; simp at hm; omega
        · exact h
      obtain ⟨i', rfl⟩ : ∃ i', i = i' + 1 := ⟨i - 1, by omega⟩
      have hm2 : m / 256 < 256 ^ i' := Nat.div_lt_of_lt_mul (by rw [Nat.pow_succ] at hm; omega)
      have hE : minB n = minF i' (m / 256) ++ (UInt8.ofNat (m % 256) :: l) := by
        rw [he, minF, if_neg hz]; simp
      have HM := Lib.hid (And.intro hm2 hE)
      clear hm he hm2 hE
      go_wp2_with fail
      go_roundw
      case rel =>
        rw [u8_nat]
        have h2 := HS.out.1 (UInt8.ofNat (m % 256))
        exact ⟨m / 256, j + 1, UInt8.ofNat (m % 256) :: l, by push_cast; rfl, by go_num, by simp; omega, by omega, by rw [show 8 - (j + 1) = i' by omega]; exact HM.out.1, by rw [show 8 - (j + 1) = i' by omega]; exact HM.out.2, by rw [show 9 - (j + 1) = i' + 1 by omega]; exact h2, HS.out.2.1 _, HS.out.2.2 _⟩
      case measure => simp [intOf]; omega
end
end Go.Proofs.YtgcobbapaaihiaaGreat

set_option linter.unusedVariables false
set_option linter.unusedSimpArgs false
namespace Go.Proofs.YtgcobbapaaihiaaGreat
open Go.RowKit

/-- The lowest i bytes of a word, the highest first. -/
def wordL : Nat → Nat → List UInt8
  | 0, _ => []
  | i + 1, n => UInt8.ofNat (n / 256 ^ i % 256) :: wordL i n
def wordB (n : Nat) : List UInt8 := wordL 8 n
theorem wordL_len : ∀ i n, (wordL i n).length = i
  | 0, _ => rfl
  | i + 1, n => by simp [wordL, wordL_len i n]

theorem bC_one (l : List UInt8) : ∀ v ∈ bC l, v.oneCell' = true := by
  intro v hv; simp [bC] at hv; obtain ⟨x, _, rfl⟩ := hv; rfl

theorem size_setCells (b : Nat) : ∀ (vs : List Value) (o : Nat) (W : World), (W.setCells b o vs).heap.size = W.heap.size
  | [], _, _ => rfl
  | v :: r, o, W => by rw [World.setCells, size_setCells b r (o + 1), size_setCell]

theorem Step.setCells {K : Nat → Prop} {c0 c : Col} {w0 : World} {b : Nat} (hb : w0.heap.size ≤ b ∨ K (c0 b)) : ∀ (vs : List Value) (o : Nat) (W : World), Step K c0 w0 c W → Step K c0 w0 c (W.setCells b o vs)
  | [], _, _, h => h
  | v :: r, o, W, h => Step.setCells hb r (o + 1) _ (h.setCell (a := ⟨b, o, none⟩) hb v)

theorem Ok.setCells {c : Col} {b : Nat} : ∀ (vs : List Value) (o : Nat) (W : World), Ok c W → Ok c (W.setCells b o vs)
  | [], _, _, h => h
  | v :: r, o, W, h => Ok.setCells r (o + 1) _ (h.setCell _ _)

theorem At.there {c : Col} {W : World} {b k : Nat} {vs : List Value} (h : At c W b k vs) (ho : Ok c W) (hk : k ≠ 0) {o n : Nat} (hn : o + n ≤ vs.length) : W.there b o n := fun j hj => by
  have := h.get (i := o + j) (u := vs[o + j]) (by rw [List.getElem?_eq_getElem])
  exact ⟨by rw [this]; rfl, h.fz ho hk _⟩

/-- A whole array is read. -/
theorem At.ld {c : Col} {W : World} {b k : Nat} {vs : List Value} (h : At c W b k vs) {ty : TypeId} {d : TypeDesc} (hu : Tryz.prog.underlying ty = some d) (hd : d.isRow = true) (hi : (Tryz.prog.info? ty).map (·.size) = some vs.length) :
    (Instr.loadAt ty (.pointer (some ⟨b, 0, none⟩))).run Tryz.prog W = .ok (.agg vs.toArray) W := run_loadAt_mid W b 0 ty vs d h.cells hu hd hi

/-- A whole array is written. -/
theorem At.st {c : Col} {W : World} {b k : Nat} {vs : List Value} (h : At c W b k vs) (ho : Ok c W) (hk : k ≠ 0) {ty : TypeId} {us : List Value} (hl : us.length = vs.length) (hi : (Tryz.prog.info? ty).map (·.size) = some us.length) (h1 : ∀ u ∈ us, u.oneCell' = true) :
    (Instr.storeAt ty (.pointer (some ⟨b, 0, none⟩)) (.agg us.toArray)).run Tryz.prog W = .ok () (W.setCells b 0 us) ∧ At c (W.setCells b 0 us) b k us := by
  have ht : W.there b 0 us.length := h.there ho hk (by omega)
  refine ⟨run_storeAt_mid W b 0 ty us.toArray (by simpa using ht) (by simpa using hi) (all_oneCell_toArray h1), h.col, by rw [size_setCells]; exact h.lt, ?_⟩
  exact World.rangeAt_setCells_same W b 0 us ht

theorem At.off {c : Col} {W : World} {b k : Nat} {vs : List Value} (h : At c W b k vs) (b' o : Nat) (us : List Value) (hb : b ≠ b') : At c (W.setCells b' o us) b k vs :=
  ⟨h.col, by rw [size_setCells]; exact h.lt, World.rangeAt_setCells_apart h.cells b' o us (.inl hb)⟩

theorem At.offC {c : Col} {W : World} {b k : Nat} {vs : List Value} (h : At c W b k vs) (b' o : Nat) (u : Value) (hb : b ≠ b') : At c (W.setCell ⟨b', o, none⟩ u) b k vs :=
  ⟨h.col, by rw [size_setCell]; exact h.lt, fun j x hx => by
    rw [World.cell?_setCell_other _ _ _ _ (by intro e; injection e with e1 e2; exact hb e1.symm)]
    exact h.cells j x hx⟩

theorem pow256 (i : Nat) : (2 : Int) ^ (8 * i) = (((256 : Nat) ^ i : Nat) : Int) := by
  rw [show (256 : Nat) = 2 ^ 8 by rfl, ← Nat.pow_mul]
  push_cast
  rfl

/-- The one result is a cell of many cells. -/
theorem results_cell_mid {fn : Func} {p : Tmp} {ty : TypeId} (h : fn.results = #[.cell p ty]) (tmps : Array Value) (W : World) (b o : Nat) (cs : List Value) (d : TypeDesc) (hp : tmps[p]? = some (.pointer (some ⟨b, o, none⟩)))
    (hc : W.rangeAt b o cs) (hu : Tryz.prog.underlying ty = some d) (hd : d.isRow = true) (hi : (Tryz.prog.info? ty).map (·.size) = some cs.length) :
    (results fn tmps).run Tryz.prog W = .ok (.agg cs.toArray) W := by
  have := run_loadVar_mid W b o ty cs d hc hu hd hi
  have hp' : tmps[p]?.getD undef = .pointer (some ⟨b, o, none⟩) := by rw [hp]; rfl
  simp [results, h, hp', asAddr, this]

theorem info8 : (Tryz.prog.info? 319).map (·.size) = some 8 := by kernel_rfl

section
variable {c : Col} {w : World}

set_option maxRecDepth 100000 in
set_option maxHeartbeats 800000 in
theorem word_any (hok : Ok c w) (n : Nat) (hn : n < 18446744073709551616) :
    Calls Tryz.prog 253 #[.int .u64 n] w fun r w' => r = .returned (.agg (bC (wordB n)).toArray) ∧ ∃ c', Step No c w c' w' ∧ Ok c' w' := by
  obtain ⟨q, hq, hqc⟩ := hok.spare 0
  obtain ⟨a0, o0, s0⟩ := newAt hok (bC (List.replicate 8 0)) 319 q
  obtain ⟨a1, o1, s1⟩ := newAt o0 (bC (List.replicate 8 0)) 319 q
  have hq0 : q ≠ 0 := by omega
  rw [World.size_alloc] at a1 o1 s1
  have a0' := a0.keep s1 (fun h => h)
  have H1 := Lib.hid (And.intro a0' (And.intro a1 (And.intro o1 (s0.trans s1))))
  clear a0 a1 o1 s1 a0' o0 s0 hqc hok
  go_enter Tryz.func253, Tryz.ntmps253
  go_wp2_with fail
  go_loopw [5] (fun vi wr => ∃ (i : Nat) (cr : Col), i ≤ 8 ∧ vi = .int .i64 i ∧ At cr wr w.heap.size q (bC (List.replicate 8 0)) ∧ At cr wr (w.heap.size + 1) q (bC (List.replicate (8 - i) 0 ++ wordL i n)) ∧ Step No c w cr wr ∧ Ok cr wr) (fun vi _ => 8 - (intOf vi).toNat)
  case atStart => exact ⟨0, _, Nat.zero_le _, rfl, H1.out.1, H1.out.2.1, H1.out.2.2.2, H1.out.2.2.1⟩
  case round =>
    obtain ⟨i, cr, hi, rfl, at0, at1, st, ok⟩ := hrel
    by_cases hlt : i < 8
    · obtain ⟨j, hj⟩ : ∃ j, 7 - i = j := ⟨_, rfl⟩
      have hij : i + j = 7 := by omega
      have h8 : 8 - i = j + 1 := by omega
      rw [h8] at at1
      have y0 : wr.cell? ⟨w.heap.size + 1, j, none⟩ = some (.int .u8 0) := at1.get (bC_get (x := 0) (by rw [List.getElem?_append_left (by simp)]; simp))
      have yf := at1.fz ok hq0 j
      have hwi : IntKind.i64.wrap (7 - (i : Int)) = (j : Int) := by rw [show (7 : Int) - i = j by omega]; exact IntWalk.i64_in _ (by omega)
      have hw8 : IntKind.i64.wrap (8 * (i : Int)) = 8 * (i : Int) := IntWalk.i64_in _ (by omega)
      have h80 : (0 : Int) ≤ 8 * (i : Int) := by omega
      have hi0 : (0 : Int) ≤ (j : Int) := by omega
      have hi1 : (j : Int) < 8 := by omega
      have hi2 : (i : Int) < 8 := by omega
      have HH := Lib.hid (And.intro at0 (And.intro at1 (And.intro st ok)))
      clear at0 at1 st ok
      go_wp2_with fail
      obtain ⟨at0, at1, st, ok⟩ := HH.out
      have hv : ((n : Int) / 2 ^ (8 * i) % 256) = ((UInt8.ofNat (n / 256 ^ i % 256)).toNat : Int) := by
        rw [pow256, ← Int.natCast_ediv, u8_nat]
      rw [hv]
      have h2 := at1.setN (i := j) (by rw [bC_len]; simp; omega) (.int .u8 (UInt8.ofNat (n / 256 ^ i % 256)).toNat)
      rw [show (bC (List.replicate (j + 1) 0 ++ wordL i n)).set j (.int .u8 (UInt8.ofNat (n / 256 ^ i % 256)).toNat) = bC (List.replicate j 0 ++ wordL (i + 1) n) by
        rw [List.replicate_succ', List.append_assoc, bC_app, bC_app, List.set_append_right _ _ (by rw [bC_len]; simp)]
        simp [bC, wordL]] at h2
      refine ⟨⟨i + 1, cr, by omega, by go_num, at0.offC _ _ _ (by omega), by rw [show 8 - (i + 1) = j by omega]; exact h2, st.setCell (.inl (by simp)) _, ok.setCell _ _⟩, by simp [intOf]; omega⟩
    · have hi8 : i = 8 := by omega
      subst hi8
      simp only [Nat.sub_self, List.replicate_zero, List.nil_append] at at1
      obtain ⟨B, hB⟩ : ∃ B, bC (wordL 8 n) = B := ⟨_, rfl⟩
      have hBl : B.length = 8 := by rw [← hB, bC_len, wordL_len]
      have hB1 : ∀ v ∈ B, v.oneCell' = true := by rw [← hB]; exact bC_one _
      rw [hB] at at1
      have ht0 : wr.there w.heap.size 0 B.toArray.size := at0.there ok hq0 (by simp [bC_len, hBl])
      have hi0 : (Tryz.prog.info? 319).map (·.size) = some B.length := by rw [info8, hBl]
      have hi1 : (Tryz.prog.info? 319).map (·.size) = some B.toArray.size := by rw [info8]; simp [hBl]
      have hB2 := all_oneCell_toArray hB1
      obtain ⟨S0, a2⟩ := at0.st ok hq0 (ty := 319) (us := B) (by simp [bC_len, hBl]) hi0 hB1
      have HH := Lib.hid (And.intro a2 (And.intro st (And.intro ok (And.intro hB (And.intro at1 (And.intro ht0 (And.intro hi0 (And.intro hi1 hB2))))))))
      clear at0 at1 st ok a2 hB hBl hB1 ht0 hi0 hi1 hB2 S0
      go_wp2_with (first | (refine wpList_load_mid rfl 319 _ rfl (w.heap.size + 1) 0 rfl B _ HH.out.2.2.2.2.1.cells Tryz.underlying319 rfl HH.out.2.2.2.2.2.2.1 ?_) | (refine wpList_store_mid rfl 319 _ _ rfl w.heap.size 0 B.toArray rfl rfl HH.out.2.2.2.2.2.1 HH.out.2.2.2.2.2.2.2.1 HH.out.2.2.2.2.2.2.2.2 ?_))
      refine bodyPost_ret (results_cell_mid rfl _ _ w.heap.size 0 B _ rfl HH.out.1.cells Tryz.underlying319 rfl HH.out.2.2.2.2.2.2.1) rfl ⟨by rw [← HH.out.2.2.2.1]; rfl, _, Step.setCells (.inl (Nat.le_refl _)) _ _ _ HH.out.2.1, Ok.setCells _ _ _ HH.out.2.2.1⟩
end
end Go.Proofs.YtgcobbapaaihiaaGreat
