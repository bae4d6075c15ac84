/- ServerKnown, part 09: lemmas, each with its own conditions. -/
import Derived.Test.YtgcobbapaaihiaaGreatSk01
import Derived.Test.YtgcobbapaaihiaaGreatSk03
import Derived.Test.YtgcobbapaaihiaaGreatSk08
import Derived.Test.YtgcobbapaaihiaaGreatProg
import Derived.Laws.RangeAny
import Derived.Deep.DeepFit
set_option linter.unusedVariables false
set_option linter.unusedSimpArgs false
namespace Go.Proofs.YtgcobbapaaihiaaGreat
open Go.RowKit

theorem At.kn {c c' : Col} {w w' : World} {b k : Nat} {vs : List Value} (h : At c w b k vs) (hs : Step No c w c' w') : At c' w' b k vs := h.keep hs (fun h => h)

theorem fill_next {place : Nat → Option (Nat × Nat)} {Pf Z B : List Value} {i : Nat} {v : Value} {rest : List (Nat × Value)} (hp : place i = some (Pf.length, B.length)) (hv : v.cells = B.toArray) (h : B.length ≤ Z.length) :
    Instr.fill place (Pf ++ Z).toArray ((i, v) :: rest) = Instr.fill place ((Pf ++ B) ++ Z.drop B.length).toArray rest := by
  have e := foldl_seg0 B (Pf ++ Z) Pf.length (by simp; omega)
  rw [List.take_left, List.drop_append, List.drop_eq_nil_of_le (by omega), List.nil_append, show Pf.length + B.length - Pf.length = B.length by omega] at e
  rw [Instr.fill, hp]
  simp only
  rw [hv, if_neg (by simp; omega), e]

section
variable {P : Program}
/-- What a load yields; what a literal yields. -/
theorem y_load {ρ : Operand → Value} {o : Oper} {W : World} {p v : Value} (ty : TypeId) (h : (Instr.loadAt ty p).run P W = .ok v W) (x : Operand) (ho : o.op = .load ty x) (hx : ρ x = p) : (execOp ρ o).run P W = .ok (.value v) W := by
  subst hx
  unfold execOp
  simp only [ho, Sem.run_bind, Sem.run_pure, h, Result.andThen_ok]
theorem y_build {ρ : Operand → Value} {o : Oper} {W : World} {ps : List (Nat × Value)} {cells : Array Value} (ty : TypeId) (hb : P.built ty ps = some cells) (parts : Array (Nat × Operand)) (ho : o.op = .build ty parts) (hp : (parts.toList.map fun (i, x) => (i, ρ x)) = ps) : (execOp ρ o).run P W = .ok (.value (.agg cells)) W := by
  subst hp
  have hr := run_build (P := P) W ty (parts.map fun (i, x) => (i, ρ x)) cells (by rw [Array.toList_map]; exact hb)
  unfold execOp
  simp only [ho, Sem.run_bind, Sem.run_pure, hr, Result.andThen_ok]
/-- An alloc, as a step of a region that draws its order. -/
theorem step_alloc {ops : Array Oper} {o : Oper} {a : Act} {w : World} {K : Act → World → Prop} {Q : Exit → Act → World → Prop} {E : Prop} (hgd : o.guard = none) {dd : Option Tmp} (hdd : o.dst = dd) (ty : TypeId) (ho : o.op = .alloc ty) {Z : List Value} (hz : zeroIs P ty Z)
    (h : K (a.put dd (.pointer (some ⟨w.heap.size, 0, none⟩))) (w.alloc (.cells Z.toArray ty))) : if Region.wanted o (yielded ops a.tmps) = true then Oper.wp P o a w K Q else E := by
  subst hdd
  rw [if_pos (by simp [Region.wanted, hgd])]
  unfold Oper.wp
  rw [run_alloc_zero ty ho hz, Oper.upon_value]
  exact h
end

theorem answer_fill (parts : List (Nat × Value)) : Tryz.prog.built 61 parts = Instr.fill ([(0, 1), (1, 166)].toArray[·]?) (zeroL 61).toArray parts := by kernel_rfl
theorem answer_zl : (zeroL 61).length = 167 := by kernel_rfl
theorem answer_built (id : Int) {B : List Value} (hB : B.length = 166) : Tryz.prog.built 61 [(0, .int .i64 id), (1, .agg B.toArray)] = some (.int .i64 id :: B).toArray := by
  rw [answer_fill]
  have hz := answer_zl
  obtain ⟨Z, hZ⟩ : ∃ Z, zeroL 61 = Z := ⟨_, rfl⟩
  rw [hZ] at hz ⊢
  have e1 := fill_next (place := ([(0, 1), (1, 166)].toArray[·]?)) (Pf := []) (Z := Z) (B := [.int .i64 id]) (i := 0) (v := .int .i64 id) (rest := [(1, .agg B.toArray)]) rfl rfl (by simp [hz])
  rw [List.nil_append] at e1
  rw [e1]
  have e2 := fill_next (place := ([(0, 1), (1, 166)].toArray[·]?)) (Pf := [.int .i64 id]) (Z := Z.drop 1) (B := B) (i := 1) (v := .agg B.toArray) (rest := []) (by rw [hB]; rfl) rfl (by simp [hB, hz])
  rw [List.nil_append, List.length_singleton, e2, Instr.fill, List.drop_drop, List.drop_eq_nil_of_le (by simp [hB, hz]), List.append_nil]
  rfl
end Go.Proofs.YtgcobbapaaihiaaGreat

set_option linter.unusedVariables false
set_option linter.unusedSimpArgs false
namespace Go.Proofs.YtgcobbapaaihiaaGreat
open Go.RowKit

/-- May a rune stand in a name? -/
def plainI (r : Int) : Bool := (decide (97 ≤ r) && decide (r ≤ 122)) || (decide (48 ≤ r) && decide (r ≤ 57)) || (r == 45)
def plainAll (l : List UInt8) : Bool := l.all fun b => plainI b.toNat
/-- Is a text a chain's name? -/
def nameB (l : List UInt8) : Bool := decide (1 ≤ l.length) && decide (l.length ≤ 32) && plainAll l

theorem plain_high (r : Nat) (h : 128 ≤ r) : plainI r = false := by
  simp [plainI]; omega
theorem plain_no {l : List UInt8} {i : Nat} (hi : i < l.length) (h : plainI (l[i]'hi).toNat = false) : plainAll l = false := by
  unfold plainAll
  rw [List.all_eq_false]
  exact ⟨l[i], List.getElem_mem hi, by rw [h]; decide⟩

section
variable {c : Col} {w : World}

set_option maxHeartbeats 800000 in
theorem plain_any (r : Int) (w : World) : Calls Tryz.prog 158 #[.int .i32 r] w fun e w' => e = .returned (.bool (plainI r)) ∧ w' = w := by
  have hp := Lib.hid (show plainI r = ((decide (97 ≤ r) && decide (r ≤ 122)) || (decide (48 ≤ r) && decide (r ≤ 57)) || (r == 45)) from rfl)
  by_cases h1 : 97 ≤ r
  · by_cases h2 : r ≤ 122
    · go_enter Tryz.func158, Tryz.ntmps158
      go_wp2
      go_ret
      exact ⟨by (rw [hp.out]; simp [h1, h2]; try omega), rfl⟩
    · have h3 : 48 ≤ r := by omega
      have h4 : ¬ r ≤ 57 := by omega
      have h5 : ¬ r = 45 := by omega
      go_enter Tryz.func158, Tryz.ntmps158
      go_wp2
      go_ret
      exact ⟨by (rw [hp.out]; simp [h1, h2, h3, h4, h5]; try omega), rfl⟩
  · by_cases h3 : 48 ≤ r
    · by_cases h4 : r ≤ 57
      · go_enter Tryz.func158, Tryz.ntmps158
        go_wp2
        go_ret
        exact ⟨by (rw [hp.out]; simp [h1, h3, h4]; try omega), rfl⟩
      · have h5 : ¬ r = 45 := by omega
        go_enter Tryz.func158, Tryz.ntmps158
        go_wp2
        go_ret
        exact ⟨by (rw [hp.out]; simp [h1, h3, h4, h5]; try omega), rfl⟩
    · go_enter Tryz.func158, Tryz.ntmps158
      go_wp2
      go_ret
      exact ⟨by (rw [hp.out]; simp [h1, h3]; try omega), rfl⟩

set_option maxHeartbeats 800000 in
theorem each_any (l : List UInt8) (hl : l.length ≤ 1000000000) (w : World) :
    Calls Tryz.prog 157 #[.string ⟨l.toArray⟩, .func (.func 158) #[] #[]] w fun e w' => e = .returned (.bool (plainAll l)) ∧ ∃ pos, w' = w.iter ⟨l.toArray⟩ pos := by
  obtain ⟨s, hs⟩ : ∃ s : ByteArray, ⟨l.toArray⟩ = s := ⟨_, rfl⟩
  have hsz : s.size = l.length := by rw [← hs]; simp [ByteArray.size]
  have hget : ∀ (i : Nat) (h : i < s.size), (s[i]'h) = l[i]'(by omega) := fun i h => by subst hs; rfl
  rw [hs]
  have HS := Lib.hid (And.intro hs (And.intro hsz hget))
  clear hs
  go_enter Tryz.func157, Tryz.ntmps157
  go_wp2_with fail
  go_loopw [6] (fun _ wr => ∃ pos : Nat, pos ≤ l.length ∧ wr = w.iter s pos ∧ (l.take pos).all (fun b => plainI b.toNat) = true) (fun _ wr => s.size - wr.iterPos w.heap.size)
  case atStart => exact ⟨0, Nat.zero_le _, rfl, rfl⟩
  case round =>
    obtain ⟨pos, hp, rfl, hall⟩ := hrel
    by_cases hlt : pos < s.size
    · by_cases ha : (s[pos]'hlt).toNat < 128
      · have hnx : ∀ ty, (Instr.next (.pointer (some ⟨w.heap.size, 0, none⟩)) true ty).run Tryz.prog (w.iter s pos) = _ := fun ty => run_next_ascii w s pos ty hlt ha
        obtain ⟨b, hb⟩ : ∃ b, s[pos]'hlt = b := ⟨_, rfl⟩
        rw [hb] at hnx ha
        have PL := plain_any b.toNat (w.iter s (pos + 1))
        go_wp2_with fail
        with_reducible refine PL.mono ?_
        rintro e w1 ⟨rfl, rfl⟩
        have HB := Lib.hid hb
        rcases hpl : plainI b.toNat
        · have HP := Lib.hid hpl
          go_wp2_with fail
          go_ret
          refine ⟨?_, _, rfl⟩
          rw [plain_no (i := pos) (by rw [← HS.out.2.1]; exact hlt) (by rw [← HS.out.2.2 pos hlt, HB.out]; exact HP.out)]
          rfl
        · have HP := Lib.hid hpl
          go_wp2_with fail
          go_roundw
          case rel =>
            refine ⟨pos + 1, by omega, rfl, ?_⟩
            rw [List.take_add_one, List.getElem?_eq_getElem (by omega), ← HS.out.2.2 pos hlt, HB.out]
            simp only [Option.toList_some, List.all_append, hall, List.all_cons, List.all_nil, HP.out, Bool.and_self]
          case measure => simp; omega
      · have hd := decode_high s pos hlt (by omega)
        have hnx : ∀ ty, (Instr.next (.pointer (some ⟨w.heap.size, 0, none⟩)) true ty).run Tryz.prog (w.iter s pos) = _ := fun ty => run_next_any w s pos ty hlt
        obtain ⟨r, hr⟩ : ∃ r, (Utf8.decode s pos).1 = r := ⟨_, rfl⟩
        obtain ⟨wd, hwd⟩ : ∃ r, (Utf8.decode s pos).2 = r := ⟨_, rfl⟩
        rw [hr, hwd] at hnx
        rw [hr] at hd
        have PL := plain_any r (w.iter s (pos + wd))
        rw [plain_high r (by omega)] at PL
        have HA := Lib.hid ha
        clear hd hr hwd ha
        go_wp2_with fail
        with_reducible refine PL.mono ?_
        rintro e w1 ⟨rfl, rfl⟩
        go_wp2_with fail
        go_ret
        refine ⟨?_, _, rfl⟩
        rw [plain_no (i := pos) (by rw [← HS.out.2.1]; exact hlt) (by rw [← HS.out.2.2 pos hlt]; exact plain_high _ (by have := HA.out; omega))]
        rfl
    · have hnx : ∀ ty, (Instr.next (.pointer (some ⟨w.heap.size, 0, none⟩)) true ty).run Tryz.prog (w.iter s pos) = _ := fun ty => run_next_end w s pos ty hlt
      have hpe : pos = l.length := by omega
      rw [hpe, List.take_length] at hall
      have HA := Lib.hid hall
      clear hall hpe
      go_wp2_with fail
      go_ret
      exact ⟨by rw [show plainAll l = true from HA.out]; rfl, _, rfl⟩

theorem name_any (l : List UInt8) (hl : l.length ≤ 1000000000) (w : World) :
    Calls Tryz.prog 127 #[.string ⟨l.toArray⟩] w fun e w' => e = .returned (.bool (nameB l)) ∧ (w' = w ∨ ∃ pos, w' = w.iter ⟨l.toArray⟩ pos) := by
  have hsz : (⟨l.toArray⟩ : ByteArray).size = l.length := by simp [ByteArray.size]
  have E := each_any l hl w
  obtain ⟨s, hs⟩ : ∃ s : ByteArray, ⟨l.toArray⟩ = s := ⟨_, rfl⟩
  rw [hs] at hsz E ⊢
  have hN := Lib.hid (show nameB l = (decide (1 ≤ l.length) && decide (l.length ≤ 32) && plainAll l) from rfl)
  by_cases h1 : 1 ≤ l.length
  · by_cases h2 : l.length ≤ 32
    · have i1 : (1 : Int) ≤ (l.length : Int) := by omega
      have i2 : (l.length : Int) ≤ 32 := by omega
      clear hs
      go_enter Tryz.func127, Tryz.ntmps127
      go_wp2_with fail
      with_reducible refine E.mono ?_
      rintro e w1 ⟨rfl, pos, rfl⟩
      go_wp2_with fail
      go_ret
      exact ⟨by rw [hN.out]; simp [h1, h2], .inr ⟨pos, rfl⟩⟩
    · have i1 : (1 : Int) ≤ (l.length : Int) := by omega
      have i2 : ¬ (l.length : Int) ≤ 32 := by omega
      clear hs E
      go_enter Tryz.func127, Tryz.ntmps127
      go_wp2_with fail
      go_ret
      exact ⟨by (rw [hN.out]; simp [h1]; try omega), .inl rfl⟩
  · have i1 : ¬ (1 : Int) ≤ (l.length : Int) := by omega
    clear hs E
    go_enter Tryz.func127, Tryz.ntmps127
    go_wp2_with fail
    go_ret
    exact ⟨by (rw [hN.out]; simp; try omega), .inl rfl⟩
end
end Go.Proofs.YtgcobbapaaihiaaGreat

set_option linter.unusedVariables false
set_option linter.unusedSimpArgs false
namespace Go.Proofs.YtgcobbapaaihiaaGreat
open Go.RowKit

/-- A header. -/
structure Hdr where
  name : List UInt8
  height : Int
  time : Int
  prev : List UInt8
  vals : List UInt8
  next : List UInt8
  app : List UInt8

structure Hdr.Wf (h : Hdr) : Prop where
  name : h.name.length ≤ 1000000000
  height : IntKind.i64.has h.height
  time : IntKind.i64.has h.time
  prev : h.prev.length = 32
  vals : h.vals.length = 32
  next : h.next.length = 32
  app : h.app.length = 32

/-- Its cells. -/
def hdrC (h : Hdr) : List Value := .string ⟨h.name.toArray⟩ :: .int .i64 h.height :: .int .i64 h.time :: (bC h.prev ++ (bC h.vals ++ (bC h.next ++ bC h.app)))

theorem hdrC_len {h : Hdr} (hw : h.Wf) : (hdrC h).length = 131 := by
  obtain ⟨_, _, _, h1, h2, h3, h4⟩ := hw
  simp [hdrC, bC_len, h1, h2, h3, h4]
theorem hdrC_one (h : Hdr) : ∀ v ∈ hdrC h, v.oneCell' = true := by
  intro v hv
  simp only [hdrC, List.mem_cons, List.mem_append] at hv
  rcases hv with rfl | rfl | rfl | hv | hv | hv | hv
  · rfl
  · rfl
  · rfl
  all_goals exact bC_one _ v hv

theorem info_hdr : (Tryz.prog.info? 53).map (·.size) = some 131 := by kernel_rfl

def heightB (n : Int) : Bool := decide (1 ≤ n) && decide (n ≤ 1073741824)
def timeB (n : Int) : Bool := decide (0 ≤ n) && decide (n ≤ 1099511627776)

section
variable {c : Col} {w : World}

theorem iter_step (s : ByteArray) (pos : Nat) : Step No c w c (w.iter s pos) := Step.refl.alloc _
theorem iter_ok (hok : Ok c w) (s : ByteArray) (pos : Nat) : Ok c (w.iter s pos) := hok.alloc _

theorem rule1_any (hok : Ok c w) (h : Hdr) (hw : h.Wf) :
    Calls Tryz.prog 195 #[.agg (hdrC h).toArray] w fun r w' => r = .returned (.bool (nameB h.name)) ∧ ∃ c', Step No c w c' w' ∧ Ok c' w' := by
  have a1 := At.new0 hok (hdrC h) 53
  have o1 := hok.alloc (.cells (hdrC h).toArray 53)
  have s1 : Step No c w c (w.alloc (.cells (hdrC h).toArray 53)) := Step.refl.alloc _
  have y0 := a1.get (i := 0) (u := .string ⟨h.name.toArray⟩) rfl
  have N := name_any h.name hw.name (w.alloc (.cells (hdrC h).toArray 53))
  obtain ⟨B, hB⟩ : ∃ B, hdrC h = B := ⟨_, rfl⟩
  rw [hB] at a1 o1 s1 y0 N ⊢
  have H := Lib.hid (And.intro o1 s1)
  clear a1 o1 s1 hok hB
  go_enter Tryz.func195, Tryz.ntmps195
  go_wp2_with fail
  with_reducible refine N.mono ?_
  rintro e w1 ⟨rfl, hw1⟩
  have HW := Lib.hid hw1
  clear hw1 N
  go_wp2_with fail
  go_ret
  obtain ⟨o1, s1⟩ := H.out
  rcases HW.out with rfl | ⟨pos, rfl⟩
  · exact ⟨rfl, c, s1, o1⟩
  · exact ⟨rfl, c, s1.trans (iter_step _ _), iter_ok o1 _ _⟩

theorem rule2_any (hok : Ok c w) (h : Hdr) :
    Calls Tryz.prog 196 #[.agg (hdrC h).toArray] w fun r w' => r = .returned (.bool (heightB h.height)) ∧ ∃ c', Step No c w c' w' ∧ Ok c' w' := by
  have a1 := At.new0 hok (hdrC h) 53
  have o1 := hok.alloc (.cells (hdrC h).toArray 53)
  have s1 : Step No c w c (w.alloc (.cells (hdrC h).toArray 53)) := Step.refl.alloc _
  have y0 := a1.get (i := 1) (u := .int .i64 h.height) rfl
  have hb := Lib.hid (show heightB h.height = (decide (1 ≤ h.height) && decide (h.height ≤ 1073741824)) from rfl)
  obtain ⟨B, hB⟩ : ∃ B, hdrC h = B := ⟨_, rfl⟩
  rw [hB] at a1 o1 s1 y0 ⊢
  have H := Lib.hid (And.intro s1 o1)
  clear a1 o1 s1 hok hB
  by_cases h1 : 1 ≤ h.height
  · go_enter Tryz.func196, Tryz.ntmps196
    go_wp2_with fail
    go_ret
    exact ⟨by (rw [hb.out]; simp [h1]), c, H.out⟩
  · go_enter Tryz.func196, Tryz.ntmps196
    go_wp2_with fail
    go_ret
    exact ⟨by (rw [hb.out]; simp; omega), c, H.out⟩

theorem rule3_any (hok : Ok c w) (h : Hdr) :
    Calls Tryz.prog 197 #[.agg (hdrC h).toArray] w fun r w' => r = .returned (.bool (timeB h.time)) ∧ ∃ c', Step No c w c' w' ∧ Ok c' w' := by
  have a1 := At.new0 hok (hdrC h) 53
  have o1 := hok.alloc (.cells (hdrC h).toArray 53)
  have s1 : Step No c w c (w.alloc (.cells (hdrC h).toArray 53)) := Step.refl.alloc _
  have y0 := a1.get (i := 2) (u := .int .i64 h.time) rfl
  have hb := Lib.hid (show timeB h.time = (decide (0 ≤ h.time) && decide (h.time ≤ 1099511627776)) from rfl)
  obtain ⟨B, hB⟩ : ∃ B, hdrC h = B := ⟨_, rfl⟩
  rw [hB] at a1 o1 s1 y0 ⊢
  have H := Lib.hid (And.intro s1 o1)
  clear a1 o1 s1 hok hB
  by_cases h1 : 0 ≤ h.time
  · go_enter Tryz.func197, Tryz.ntmps197
    go_wp2_with fail
    go_ret
    exact ⟨by (rw [hb.out]; simp [h1]), c, H.out⟩
  · go_enter Tryz.func197, Tryz.ntmps197
    go_wp2_with fail
    go_ret
    exact ⟨by (rw [hb.out]; simp; omega), c, H.out⟩
end
end Go.Proofs.YtgcobbapaaihiaaGreat

set_option linter.unusedVariables false
set_option linter.unusedSimpArgs false
namespace Go.Proofs.YtgcobbapaaihiaaGreat
open Go.RowKit

/-- Why a header may not be. -/
def checkH (h : Hdr) : Int := if nameB h.name = false then 5 else if heightB h.height = false then 3 else if timeB h.time = false then 3 else 0

theorem info_rule : (Tryz.prog.info? 247).map (·.size) = some 2 := by kernel_rfl

section
variable {c : Col} {w : World}

theorem rules_any (w : World) : Calls Tryz.prog 170 #[] w fun r w' => r = .returned (.slice (some ⟨w.heap.size, 0, none⟩) 3 3) ∧ w' = w.alloc (.cells #[.func (.func 195) #[] #[], .int .i64 5, .func (.func 196) #[] #[], .int .i64 3, .func (.func 197) #[] #[], .int .i64 3] 247) := by
  go_enter Tryz.func170, Tryz.ntmps170
  go_wp2
  go_ret
  exact ⟨rfl, rfl⟩

set_option maxRecDepth 100000 in
set_option maxHeartbeats 1600000 in
theorem check_any (hok : Ok c w) (h : Hdr) (hw : h.Wf) :
    Calls Tryz.prog 141 #[.agg (hdrC h).toArray] w fun r w' => r = .returned (.int .i64 (checkH h)) ∧ ∃ c', Step No c w c' w' ∧ Ok c' w' := by
  have a1 := At.new0 hok (hdrC h) 53
  have o1 := hok.alloc (.cells (hdrC h).toArray 53)
  have s1 : Step No c w c (w.alloc (.cells (hdrC h).toArray 53)) := Step.refl.alloc _
  have a2 := At.new0 o1 [.func (.func 195) #[] #[], .int .i64 5, .func (.func 196) #[] #[], .int .i64 3, .func (.func 197) #[] #[], .int .i64 3] 247
  have s2 : Step No c (w.alloc (.cells (hdrC h).toArray 53)) c ((w.alloc (.cells (hdrC h).toArray 53)).alloc (.cells #[.func (.func 195) #[] #[], .int .i64 5, .func (.func 196) #[] #[], .int .i64 3, .func (.func 197) #[] #[], .int .i64 3] 247)) := Step.refl.alloc _
  have o2 := o1.alloc (.cells #[.func (.func 195) #[] #[], .int .i64 5, .func (.func 196) #[] #[], .int .i64 3, .func (.func 197) #[] #[], .int .i64 3] 247)
  have a12 := a1.keep s2 (fun h => h)
  rw [World.size_alloc] at a2
  have RU := rules_any (w.alloc (.cells (hdrC h).toArray 53))
  have R1 := fun {c' : Col} {w' : World} (ho : Ok c' w') => rule1_any ho h hw
  have R2 := fun {c' : Col} {w' : World} (ho : Ok c' w') => rule2_any ho h
  have R3 := fun {c' : Col} {w' : World} (ho : Ok c' w') => rule3_any ho h
  have hl := hdrC_len hw
  have hC := Lib.hid (show checkH h = if nameB h.name = false then 5 else if heightB h.height = false then 3 else if timeB h.time = false then 3 else 0 from rfl)
  obtain ⟨B, hB⟩ : ∃ B, hdrC h = B := ⟨_, rfl⟩
  rw [hB] at a1 o1 s1 a2 s2 o2 a12 RU hl R1 R2 R3 ⊢
  have hi : Hid ((Tryz.prog.info? 53).map (·.size) = some B.length) := Lib.hid (by rw [info_hdr, hl])
  obtain ⟨b1, hb1⟩ : ∃ b, w.heap.size = b := ⟨_, rfl⟩
  have S12 := s1.trans s2
  have H0 := Lib.hid (And.intro S12 (And.intro o2 (And.intro a12 (And.intro a2 hb1))))
  have HR := Lib.hid (And.intro @R1 (And.intro @R2 @R3))
  clear a1 o1 s1 a2 s2 o2 a12 R1 R2 R3 hl hB hok S12 hb1
  go_enter Tryz.func141, Tryz.ntmps141
  go_wp2_with fail
  with_reducible refine RU.mono ?_
  rintro e w1 ⟨rfl, rfl⟩
  clear RU
  go_wp2_with fail
  go_loopw [7] (fun vi wr => ∃ (i : Nat) (cr : Col), i ≤ 3 ∧ vi = .int .i64 i ∧ Step No c w cr wr ∧ Ok cr wr ∧ At cr wr w.heap.size 0 B ∧ At cr wr (w.heap.size + 1) 0 [.func (.func 195) #[] #[], .int .i64 5, .func (.func 196) #[] #[], .int .i64 3, .func (.func 197) #[] #[], .int .i64 3] ∧ (0 < i → nameB h.name = true) ∧ (1 < i → heightB h.height = true) ∧ (2 < i → timeB h.time = true)) (fun vi _ => 3 - (intOf vi).toNat)
  case atStart => exact ⟨0, c, by omega, rfl, H0.out.1, H0.out.2.1, H0.out.2.2.1, H0.out.2.2.2.1, by omega, by omega, by omega⟩
  case round =>
    obtain ⟨i, cr, hi3, rfl, st, ok, ah, ar, k1, k2, k3⟩ := hrel
    have e0 := ar.get (i := 0) rfl
    have e1 := ar.get (i := 1) rfl
    have e2 := ar.get (i := 2) rfl
    have e3 := ar.get (i := 3) rfl
    have e4 := ar.get (i := 4) rfl
    have e5 := ar.get (i := 5) rfl
    rcases (by omega : i = 0 ∨ i = 1 ∨ i = 2 ∨ i = 3) with rfl | rfl | rfl | rfl
    · obtain ⟨q, hq, hqc⟩ := ok.spare 0
      have hq0 : q ≠ 0 := by omega
      obtain ⟨az, oz, sz⟩ := newAt ok [.nilFunc, .int .i64 0] 247 q
      have hi2 : Hid ((Tryz.prog.info? 247).map (·.size) = some 2) := Lib.hid info_rule
      obtain ⟨S0, a4⟩ := az.st oz hq0 (ty := 247) (us := [.func (.func 195) #[] #[], .int .i64 5]) rfl hi2.out (by intro u hu; simp at hu; rcases hu with rfl | rfl <;> rfl)
      have ht := Lib.hid (az.there (o := 0) (n := ([.func (.func 195) #[] #[], .int .i64 5] : List Value).toArray.size) oz hq0 (by simp))
      have hall := Lib.hid (all_oneCell_toArray (cs := [.func (.func 195) #[] #[], .int .i64 5]) (by intro u hu; simp at hu; rcases hu with rfl | rfl <;> rfl))
      have hi3 : Hid ((Tryz.prog.info? 247).map (·.size) = some ([.func (.func 195) #[] #[], .int .i64 5] : List Value).toArray.size) := Lib.hid info_rule
      have sx : Step No cr wr (cr.put wr.heap.size q) ((wr.alloc (.cells #[.nilFunc, .int .i64 0] 247)).setCells wr.heap.size 0 [.func (.func 195) #[] #[], .int .i64 5]) := Step.setCells (.inl (Nat.le_refl _)) _ _ _ sz
      have ox : Ok (cr.put wr.heap.size q) ((wr.alloc (.cells #[.nilFunc, .int .i64 0] 247)).setCells wr.heap.size 0 [.func (.func 195) #[] #[], .int .i64 5]) := Ok.setCells _ _ _ oz
      have R := (HR.out.1) ox
      have ahx := ah.keep sx (fun h => h)
      have arx := ar.keep sx (fun h => h)
      have e6 := a4.get (i := 0) rfl
      have e7 := a4.get (i := 1) rfl
      have HX := Lib.hid (And.intro ahx (And.intro arx (And.intro (st.trans sx) (And.intro k1 (And.intro k2 (And.intro k3 a4))))))
      have HA := Lib.hid ahx.cells
      obtain ⟨v, hv⟩ : ∃ v, nameB h.name = v := ⟨_, rfl⟩
      rw [hv] at R
      have HV := Lib.hid hv
      clear st ok ah ar k1 k2 k3 ahx arx sx hv az oz sz S0 a4 ox hqc
      go_wp2_with (first | (refine wpList_load_mid rfl 53 _ rfl w.heap.size 0 rfl B _ HA.out Tryz.underlying53 rfl hi.out ?_) | (refine wpList_store_mid rfl 247 _ _ rfl wr.heap.size 0 ([.func (.func 195) #[] #[], .int .i64 5] : List Value).toArray rfl rfl ht.out hi3.out hall.out ?_))
      with_reducible refine R.mono ?_
      rintro e w2 ⟨rfl, c2, s2, o2⟩
      have P := Lib.hid (And.intro s2 (And.intro o2 (HX.out.2.2.2.2.2.2.keep s2 (fun h => h))))
      have e8 := P.out.2.2.get (i := 1) rfl
      clear R s2 o2 e0 e1 e2 e3 e4 e5 e6 e7
      rcases v with _ | _
      · go_wp2_with fail
        go_ret
        obtain ⟨s2, o2, _⟩ := P.out
        refine ⟨?_, c2, HX.out.2.2.1.trans s2, o2⟩
        rw [hC.out, if_pos HV.out]
        rfl
      · go_wp2_with fail
        go_roundw
        case rel =>
          obtain ⟨s2, o2, _⟩ := P.out
          exact ⟨1, c2, by omega, by first | rfl | go_num, HX.out.2.2.1.trans s2, o2, HX.out.1.keep s2 (fun h => h), HX.out.2.1.keep s2 (fun h => h), fun _ => HV.out, fun h => absurd h (by decide), fun h => absurd h (by decide)⟩
        case measure => simp [intOf]
    · obtain ⟨q, hq, hqc⟩ := ok.spare 0
      have hq0 : q ≠ 0 := by omega
      obtain ⟨az, oz, sz⟩ := newAt ok [.nilFunc, .int .i64 0] 247 q
      have hi2 : Hid ((Tryz.prog.info? 247).map (·.size) = some 2) := Lib.hid info_rule
      obtain ⟨S0, a4⟩ := az.st oz hq0 (ty := 247) (us := [.func (.func 196) #[] #[], .int .i64 3]) rfl hi2.out (by intro u hu; simp at hu; rcases hu with rfl | rfl <;> rfl)
      have ht := Lib.hid (az.there (o := 0) (n := ([.func (.func 196) #[] #[], .int .i64 3] : List Value).toArray.size) oz hq0 (by simp))
      have hall := Lib.hid (all_oneCell_toArray (cs := [.func (.func 196) #[] #[], .int .i64 3]) (by intro u hu; simp at hu; rcases hu with rfl | rfl <;> rfl))
      have hi3 : Hid ((Tryz.prog.info? 247).map (·.size) = some ([.func (.func 196) #[] #[], .int .i64 3] : List Value).toArray.size) := Lib.hid info_rule
      have sx : Step No cr wr (cr.put wr.heap.size q) ((wr.alloc (.cells #[.nilFunc, .int .i64 0] 247)).setCells wr.heap.size 0 [.func (.func 196) #[] #[], .int .i64 3]) := Step.setCells (.inl (Nat.le_refl _)) _ _ _ sz
      have ox : Ok (cr.put wr.heap.size q) ((wr.alloc (.cells #[.nilFunc, .int .i64 0] 247)).setCells wr.heap.size 0 [.func (.func 196) #[] #[], .int .i64 3]) := Ok.setCells _ _ _ oz
      have R := (HR.out.2.1) ox
      have ahx := ah.keep sx (fun h => h)
      have arx := ar.keep sx (fun h => h)
      have e6 := a4.get (i := 0) rfl
      have e7 := a4.get (i := 1) rfl
      have HX := Lib.hid (And.intro ahx (And.intro arx (And.intro (st.trans sx) (And.intro k1 (And.intro k2 (And.intro k3 a4))))))
      have HA := Lib.hid ahx.cells
      obtain ⟨v, hv⟩ : ∃ v, heightB h.height = v := ⟨_, rfl⟩
      rw [hv] at R
      have HV := Lib.hid hv
      clear st ok ah ar k1 k2 k3 ahx arx sx hv az oz sz S0 a4 ox hqc
      go_wp2_with (first | (refine wpList_load_mid rfl 53 _ rfl w.heap.size 0 rfl B _ HA.out Tryz.underlying53 rfl hi.out ?_) | (refine wpList_store_mid rfl 247 _ _ rfl wr.heap.size 0 ([.func (.func 196) #[] #[], .int .i64 3] : List Value).toArray rfl rfl ht.out hi3.out hall.out ?_))
      with_reducible refine R.mono ?_
      rintro e w2 ⟨rfl, c2, s2, o2⟩
      have P := Lib.hid (And.intro s2 (And.intro o2 (HX.out.2.2.2.2.2.2.keep s2 (fun h => h))))
      have e8 := P.out.2.2.get (i := 1) rfl
      clear R s2 o2 e0 e1 e2 e3 e4 e5 e6 e7
      rcases v with _ | _
      · go_wp2_with fail
        go_ret
        obtain ⟨s2, o2, _⟩ := P.out
        refine ⟨?_, c2, HX.out.2.2.1.trans s2, o2⟩
        rw [hC.out, if_neg (by rw [HX.out.2.2.2.1 (by decide)]; decide), if_pos HV.out]
        rfl
      · go_wp2_with fail
        go_roundw
        case rel =>
          obtain ⟨s2, o2, _⟩ := P.out
          exact ⟨2, c2, by omega, by first | rfl | go_num, HX.out.2.2.1.trans s2, o2, HX.out.1.keep s2 (fun h => h), HX.out.2.1.keep s2 (fun h => h), fun _ => HX.out.2.2.2.1 (by decide), fun _ => HV.out, fun h => absurd h (by decide)⟩
        case measure => simp [intOf]
    · obtain ⟨q, hq, hqc⟩ := ok.spare 0
      have hq0 : q ≠ 0 := by omega
      obtain ⟨az, oz, sz⟩ := newAt ok [.nilFunc, .int .i64 0] 247 q
      have hi2 : Hid ((Tryz.prog.info? 247).map (·.size) = some 2) := Lib.hid info_rule
      obtain ⟨S0, a4⟩ := az.st oz hq0 (ty := 247) (us := [.func (.func 197) #[] #[], .int .i64 3]) rfl hi2.out (by intro u hu; simp at hu; rcases hu with rfl | rfl <;> rfl)
      have ht := Lib.hid (az.there (o := 0) (n := ([.func (.func 197) #[] #[], .int .i64 3] : List Value).toArray.size) oz hq0 (by simp))
      have hall := Lib.hid (all_oneCell_toArray (cs := [.func (.func 197) #[] #[], .int .i64 3]) (by intro u hu; simp at hu; rcases hu with rfl | rfl <;> rfl))
      have hi3 : Hid ((Tryz.prog.info? 247).map (·.size) = some ([.func (.func 197) #[] #[], .int .i64 3] : List Value).toArray.size) := Lib.hid info_rule
      have sx : Step No cr wr (cr.put wr.heap.size q) ((wr.alloc (.cells #[.nilFunc, .int .i64 0] 247)).setCells wr.heap.size 0 [.func (.func 197) #[] #[], .int .i64 3]) := Step.setCells (.inl (Nat.le_refl _)) _ _ _ sz
      have ox : Ok (cr.put wr.heap.size q) ((wr.alloc (.cells #[.nilFunc, .int .i64 0] 247)).setCells wr.heap.size 0 [.func (.func 197) #[] #[], .int .i64 3]) := Ok.setCells _ _ _ oz
      have R := (HR.out.2.2) ox
      have ahx := ah.keep sx (fun h => h)
      have arx := ar.keep sx (fun h => h)
      have e6 := a4.get (i := 0) rfl
      have e7 := a4.get (i := 1) rfl
      have HX := Lib.hid (And.intro ahx (And.intro arx (And.intro (st.trans sx) (And.intro k1 (And.intro k2 (And.intro k3 a4))))))
      have HA := Lib.hid ahx.cells
      obtain ⟨v, hv⟩ : ∃ v, timeB h.time = v := ⟨_, rfl⟩
      rw [hv] at R
      have HV := Lib.hid hv
      clear st ok ah ar k1 k2 k3 ahx arx sx hv az oz sz S0 a4 ox hqc
      go_wp2_with (first | (refine wpList_load_mid rfl 53 _ rfl w.heap.size 0 rfl B _ HA.out Tryz.underlying53 rfl hi.out ?_) | (refine wpList_store_mid rfl 247 _ _ rfl wr.heap.size 0 ([.func (.func 197) #[] #[], .int .i64 3] : List Value).toArray rfl rfl ht.out hi3.out hall.out ?_))
      with_reducible refine R.mono ?_
      rintro e w2 ⟨rfl, c2, s2, o2⟩
      have P := Lib.hid (And.intro s2 (And.intro o2 (HX.out.2.2.2.2.2.2.keep s2 (fun h => h))))
      have e8 := P.out.2.2.get (i := 1) rfl
      clear R s2 o2 e0 e1 e2 e3 e4 e5 e6 e7
      rcases v with _ | _
      · go_wp2_with fail
        go_ret
        obtain ⟨s2, o2, _⟩ := P.out
        refine ⟨?_, c2, HX.out.2.2.1.trans s2, o2⟩
        rw [hC.out, if_neg (by rw [HX.out.2.2.2.1 (by decide)]; decide), if_neg (by rw [HX.out.2.2.2.2.1 (by decide)]; decide), if_pos HV.out]
        rfl
      · go_wp2_with fail
        go_roundw
        case rel =>
          obtain ⟨s2, o2, _⟩ := P.out
          exact ⟨3, c2, by omega, by first | rfl | go_num, HX.out.2.2.1.trans s2, o2, HX.out.1.keep s2 (fun h => h), HX.out.2.1.keep s2 (fun h => h), fun _ => HX.out.2.2.2.1 (by decide), fun _ => HX.out.2.2.2.2.1 (by decide), fun _ => HV.out⟩
        case measure => simp [intOf]
    · have P := Lib.hid (And.intro st (And.intro ok (And.intro k1 (And.intro k2 k3))))
      clear st ok ah ar k1 k2 k3
      go_wp2_with fail
      go_ret
      obtain ⟨st, ok, k1, k2, k3⟩ := P.out
      refine ⟨?_, cr, st, ok⟩
      rw [hC.out, if_neg (by rw [k1 (by decide)]; decide), if_neg (by rw [k2 (by decide)]; decide), if_neg (by rw [k3 (by decide)]; decide)]
      rfl
end
end Go.Proofs.YtgcobbapaaihiaaGreat
