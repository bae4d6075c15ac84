/- ServerKnown, part 03: lemmas, each with its own conditions. -/
import Derived.Test.YtgcobbapaaihiaaGreatSk01
import Derived.Test.YtgcobbapaaihiaaGreatSk02
import Derived.Deep.MidRow
import Derived.Great.Walk
import Derived.Deep.DeepFit
import Derived.BigQuiet
import Derived.Deep.QuietTactic
set_option linter.unusedVariables false
set_option linter.unusedSimpArgs false
namespace Go.Proofs.YtgcobbapaaihiaaGreat
open Go.RowKit

/-- The lowest i bytes of a word, the highest first. -/
def wordL : Nat → Nat → List UInt8
  | 0, _ => []
  | i + 1, n => UInt8.ofNat (n / 256 ^ i % 256) :: wordL i n
def wordB (n : Nat) : List UInt8 := wordL 8 n
theorem wordL_len : ∀ i n, (wordL i n).length = i
  | 0, _ => rfl
  | i + 1, n => by simp [wordL, wordL_len i n]

theorem bC_one (l : List UInt8) : ∀ v ∈ bC l, v.oneCell' = true := by
  intro v hv; simp [bC] at hv; obtain ⟨x, _, rfl⟩ := hv; rfl

theorem size_setCells (b : Nat) : ∀ (vs : List Value) (o : Nat) (W : World), (W.setCells b o vs).heap.size = W.heap.size
  | [], _, _ => rfl
  | v :: r, o, W => by rw [World.setCells, size_setCells b r (o + 1), size_setCell]

theorem Step.setCells {K : Nat → Prop} {c0 c : Col} {w0 : World} {b : Nat} (hb : w0.heap.size ≤ b ∨ K (c0 b)) : ∀ (vs : List Value) (o : Nat) (W : World), Step K c0 w0 c W → Step K c0 w0 c (W.setCells b o vs)
  | [], _, _, h => h
  | v :: r, o, W, h => Step.setCells hb r (o + 1) _ (h.setCell (a := ⟨b, o, none⟩) hb v)

theorem Ok.setCells {c : Col} {b : Nat} : ∀ (vs : List Value) (o : Nat) (W : World), Ok c W → Ok c (W.setCells b o vs)
  | [], _, _, h => h
  | v :: r, o, W, h => Ok.setCells r (o + 1) _ (h.setCell _ _)

theorem At.there {c : Col} {W : World} {b k : Nat} {vs : List Value} (h : At c W b k vs) (ho : Ok c W) (hk : k ≠ 0) {o n : Nat} (hn : o + n ≤ vs.length) : W.there b o n := fun j hj => by
  have := h.get (i := o + j) (u := vs[o + j]) (by rw [List.getElem?_eq_getElem])
  exact ⟨by rw [this]; rfl, h.fz ho hk _⟩

/-- A whole array is read. -/
theorem At.ld {c : Col} {W : World} {b k : Nat} {vs : List Value} (h : At c W b k vs) {ty : TypeId} {d : TypeDesc} (hu : Tryz.prog.underlying ty = some d) (hd : d.isRow = true) (hi : (Tryz.prog.info? ty).map (·.size) = some vs.length) :
    (Instr.loadAt ty (.pointer (some ⟨b, 0, none⟩))).run Tryz.prog W = .ok (.agg vs.toArray) W := run_loadAt_mid W b 0 ty vs d h.cells hu hd hi

/-- A whole array is written. -/
theorem At.st {c : Col} {W : World} {b k : Nat} {vs : List Value} (h : At c W b k vs) (ho : Ok c W) (hk : k ≠ 0) {ty : TypeId} {us : List Value} (hl : us.length = vs.length) (hi : (Tryz.prog.info? ty).map (·.size) = some us.length) (h1 : ∀ u ∈ us, u.oneCell' = true) :
    (Instr.storeAt ty (.pointer (some ⟨b, 0, none⟩)) (.agg us.toArray)).run Tryz.prog W = .ok () (W.setCells b 0 us) ∧ At c (W.setCells b 0 us) b k us := by
  have ht : W.there b 0 us.length := h.there ho hk (by omega)
  refine ⟨run_storeAt_mid W b 0 ty us.toArray (by simpa using ht) (by simpa using hi) (all_oneCell_toArray h1), h.col, by rw [size_setCells]; exact h.lt, ?_⟩
  exact World.rangeAt_setCells_same W b 0 us ht

theorem At.off {c : Col} {W : World} {b k : Nat} {vs : List Value} (h : At c W b k vs) (b' o : Nat) (us : List Value) (hb : b ≠ b') : At c (W.setCells b' o us) b k vs :=
  ⟨h.col, by rw [size_setCells]; exact h.lt, World.rangeAt_setCells_apart h.cells b' o us (.inl hb)⟩

theorem At.offC {c : Col} {W : World} {b k : Nat} {vs : List Value} (h : At c W b k vs) (b' o : Nat) (u : Value) (hb : b ≠ b') : At c (W.setCell ⟨b', o, none⟩ u) b k vs :=
  ⟨h.col, by rw [size_setCell]; exact h.lt, fun j x hx => by
    rw [World.cell?_setCell_other _ _ _ _ (by intro e; injection e with e1 e2; exact hb e1.symm)]
    exact h.cells j x hx⟩

theorem pow256 (i : Nat) : (2 : Int) ^ (8 * i) = (((256 : Nat) ^ i : Nat) : Int) := by
  rw [show (256 : Nat) = 2 ^ 8 by rfl, ← Nat.pow_mul]
  push_cast
  rfl

/-- The one result is a cell of many cells. -/
theorem results_cell_mid {fn : Func} {p : Tmp} {ty : TypeId} (h : fn.results = #[.cell p ty]) (tmps : Array Value) (W : World) (b o : Nat) (cs : List Value) (d : TypeDesc) (hp : tmps[p]? = some (.pointer (some ⟨b, o, none⟩)))
    (hc : W.rangeAt b o cs) (hu : Tryz.prog.underlying ty = some d) (hd : d.isRow = true) (hi : (Tryz.prog.info? ty).map (·.size) = some cs.length) :
    (results fn tmps).run Tryz.prog W = .ok (.agg cs.toArray) W := by
  have := run_loadVar_mid W b o ty cs d hc hu hd hi
  have hp' : tmps[p]?.getD undef = .pointer (some ⟨b, o, none⟩) := by rw [hp]; rfl
  simp [results, h, hp', asAddr, this]

theorem info8 : (Tryz.prog.info? 319).map (·.size) = some 8 := by kernel_rfl

section
variable {c : Col} {w : World}

set_option maxRecDepth 100000 in
set_option maxHeartbeats 800000 in
theorem word_any (hok : Ok c w) (n : Nat) (hn : n < 18446744073709551616) :
    Calls Tryz.prog 253 #[.int .u64 n] w fun r w' => r = .returned (.agg (bC (wordB n)).toArray) ∧ ∃ c', Step No c w c' w' ∧ Ok c' w' := by
  obtain ⟨q, hq, hqc⟩ := hok.spare 0
  obtain ⟨a0, o0, s0⟩ := newAt hok (bC (List.replicate 8 0)) 319 q
  obtain ⟨a1, o1, s1⟩ := newAt o0 (bC (List.replicate 8 0)) 319 q
  have hq0 : q ≠ 0 := by omega
  rw [World.size_alloc] at a1 o1 s1
  have a0' := a0.keep s1 (fun h => h)
  have H1 := Lib.hid (And.intro a0' (And.intro a1 (And.intro o1 (s0.trans s1))))
  clear a0 a1 o1 s1 a0' o0 s0 hqc hok
  go_enter Tryz.func253, Tryz.ntmps253
  go_wp2_with fail
  go_loopw [5] (fun vi wr => ∃ (i : Nat) (cr : Col), i ≤ 8 ∧ vi = .int .i64 i ∧ At cr wr w.heap.size q (bC (List.replicate 8 0)) ∧ At cr wr (w.heap.size + 1) q (bC (List.replicate (8 - i) 0 ++ wordL i n)) ∧ Step No c w cr wr ∧ Ok cr wr) (fun vi _ => 8 - (intOf vi).toNat)
  case atStart => exact ⟨0, _, Nat.zero_le _, rfl, H1.out.1, H1.out.2.1, H1.out.2.2.2, H1.out.2.2.1⟩
  case round =>
    obtain ⟨i, cr, hi, rfl, at0, at1, st, ok⟩ := hrel
    by_cases hlt : i < 8
    · obtain ⟨j, hj⟩ : ∃ j, 7 - i = j := ⟨_, rfl⟩
      have hij : i + j = 7 := by omega
      have h8 : 8 - i = j + 1 := by omega
      rw [h8] at at1
      have y0 : wr.cell? ⟨w.heap.size + 1, j, none⟩ = some (.int .u8 0) := at1.get (bC_get (x := 0) (by rw [List.getElem?_append_left (by simp)]; simp))
      have yf := at1.fz ok hq0 j
      have hwi : IntKind.i64.wrap (7 - (i : Int)) = (j : Int) := by rw [show (7 : Int) - i = j by omega]; exact IntWalk.i64_in _ (by omega)
      have hw8 : IntKind.i64.wrap (8 * (i : Int)) = 8 * (i : Int) := IntWalk.i64_in _ (by omega)
      have h80 : (0 : Int) ≤ 8 * (i : Int) := by omega
      have hi0 : (0 : Int) ≤ (j : Int) := by omega
      have hi1 : (j : Int) < 8 := by omega
      have hi2 : (i : Int) < 8 := by omega
      have HH := Lib.hid (And.intro at0 (And.intro at1 (And.intro st ok)))
      clear at0 at1 st ok
      go_wp2_with fail
      obtain ⟨at0, at1, st, ok⟩ := HH.out
      have hv : ((n : Int) / 2 ^ (8 * i) % 256) = ((UInt8.ofNat (n / 256 ^ i % 256)).toNat : Int) := by
        rw [pow256, ← Int.natCast_ediv, u8_nat]
      rw [hv]
      have h2 := at1.setN (i := j) (by rw [bC_len]; simp; omega) (.int .u8 (UInt8.ofNat (n / 256 ^ i % 256)).toNat)
      rw [show (bC (List.replicate (j + 1) 0 ++ wordL i n)).set j (.int .u8 (UInt8.ofNat (n / 256 ^ i % 256)).toNat) = bC (List.replicate j 0 ++ wordL (i + 1) n) by
        rw [List.replicate_succ', List.append_assoc, bC_app, bC_app, List.set_append_right _ _ (by rw [bC_len]; simp)]
        simp [bC, wordL]] at h2
      refine ⟨⟨i + 1, cr, by omega, by go_num, at0.offC _ _ _ (by omega), by rw [show 8 - (i + 1) = j by omega]; exact h2, st.setCell (.inl (by simp)) _, ok.setCell _ _⟩, by simp [intOf]; omega⟩
    · have hi8 : i = 8 := by omega
      subst hi8
      simp only [Nat.sub_self, List.replicate_zero, List.nil_append] at at1
      obtain ⟨B, hB⟩ : ∃ B, bC (wordL 8 n) = B := ⟨_, rfl⟩
      have hBl : B.length = 8 := by rw [← hB, bC_len, wordL_len]
      have hB1 : ∀ v ∈ B, v.oneCell' = true := by rw [← hB]; exact bC_one _
      rw [hB] at at1
      have ht0 : wr.there w.heap.size 0 B.toArray.size := at0.there ok hq0 (by simp [bC_len, hBl])
      have hi0 : (Tryz.prog.info? 319).map (·.size) = some B.length := by rw [info8, hBl]
      have hi1 : (Tryz.prog.info? 319).map (·.size) = some B.toArray.size := by rw [info8]; simp [hBl]
      have hB2 := all_oneCell_toArray hB1
      obtain ⟨S0, a2⟩ := at0.st ok hq0 (ty := 319) (us := B) (by simp [bC_len, hBl]) hi0 hB1
      have HH := Lib.hid (And.intro a2 (And.intro st (And.intro ok (And.intro hB (And.intro at1 (And.intro ht0 (And.intro hi0 (And.intro hi1 hB2))))))))
      clear at0 at1 st ok a2 hB hBl hB1 ht0 hi0 hi1 hB2 S0
      go_wp2_with (first | (refine wpList_load_mid rfl 319 _ rfl (w.heap.size + 1) 0 rfl B _ HH.out.2.2.2.2.1.cells Tryz.underlying319 rfl HH.out.2.2.2.2.2.2.1 ?_) | (refine wpList_store_mid rfl 319 _ _ rfl w.heap.size 0 B.toArray rfl rfl HH.out.2.2.2.2.2.1 HH.out.2.2.2.2.2.2.2.1 HH.out.2.2.2.2.2.2.2.2 ?_))
      refine bodyPost_ret (results_cell_mid rfl _ _ w.heap.size 0 B _ rfl HH.out.1.cells Tryz.underlying319 rfl HH.out.2.2.2.2.2.2.1) rfl ⟨by rw [← HH.out.2.2.2.1]; rfl, _, Step.setCells (.inl (Nat.le_refl _)) _ _ _ HH.out.2.1, Ok.setCells _ _ _ HH.out.2.2.1⟩
end
end Go.Proofs.YtgcobbapaaihiaaGreat

set_option linter.unusedVariables false
set_option linter.unusedSimpArgs false
namespace Go.Proofs.YtgcobbapaaihiaaGreat
open Go.RowKit

section
variable {P : Program}
/-- A type's zero cells. -/
def zeroIs (P : Program) (ty : TypeId) (Z : List Value) : Prop := (P.info? ty).map (fun i => i.zero.map Value.cells) = some (some Z.toArray)

theorem run_alloc_zero {w : World} {ρ : Operand → Value} {o : Oper} (ty : TypeId) (ho : o.op = .alloc ty) {Z : List Value} (hz : zeroIs P ty Z) :
    (execOp ρ o).run P w = .ok (.value (.pointer (some ⟨w.heap.size, 0, none⟩))) (w.alloc (.cells Z.toArray ty)) := by
  unfold zeroIs at hz
  cases hi : P.info? ty with
  | none => rw [hi] at hz; cases hz
  | some i =>
    rw [hi] at hz
    simp only [Option.map_some, Option.some.injEq] at hz
    cases hzz : i.zero with
    | none => rw [hzz] at hz; cases hz
    | some z =>
      rw [hzz] at hz
      simp only [Option.map_some, Option.some.injEq] at hz
      rw [← hz]
      simp [execOp, ho, Instr.alloc, zeroValue, typeInfo, hi, hzz, newVar, newRow]

theorem wpList_alloc_zero {ops : Array Oper} {rest : List Oper} {o : Oper} {a : Act} {w : World} {Q : Exit → Act → World → Prop} (hg : o.guard = none) (dst : Option Tmp) (hdst : o.dst = dst) (ty : TypeId) (ho : o.op = .alloc ty) {Z : List Value} (hz : zeroIs P ty Z)
    (h : wpList P ops Q rest (a.put dst (.pointer (some ⟨w.heap.size, 0, none⟩))) (w.alloc (.cells Z.toArray ty))) : wpList P ops Q (o :: rest) a w := by
  refine wpList_plain hg fun K hK => ?_
  subst hdst
  unfold Oper.wp
  rw [run_alloc_zero ty ho hz, Oper.upon_value]
  exact hK _ _ h
end

section
variable {P : Program}
/-- A type's zero value. -/
def zeroAgg (P : Program) (ty : TypeId) (Z : List Value) : Prop := (P.info? ty).map (·.zero) = some (some (.agg Z.toArray))
theorem zeroAgg.is {ty : TypeId} {Z : List Value} (h : zeroAgg P ty Z) : zeroIs P ty Z := by
  unfold zeroAgg at h
  unfold zeroIs
  cases hi : P.info? ty with
  | none => rw [hi] at h; cases h
  | some i =>
    rw [hi] at h
    simp only [Option.map_some, Option.some.injEq] at h
    simp [h, Value.cells]

/-- A literal whose cells are said. -/
theorem wpList_build_is {ops : Array Oper} {rest : List Oper} {o : Oper} {a : Act} {w : World} {Q : Exit → Act → World → Prop} (hg : o.guard = none) (dst : Option Tmp) (hdst : o.dst = dst) (ty : TypeId) (parts : Array (Nat × Operand)) (ho : o.op = .build ty parts) (cells : List Value)
    (hb : P.built ty (parts.map fun (i, x) => (i, a.eval x)).toList = some cells.toArray) (h : wpList P ops Q rest (a.put dst (.agg cells.toArray)) w) : wpList P ops Q (o :: rest) a w := by
  refine wpList_plain hg fun K hK => ?_
  subst hdst
  have hr := run_build (P := P) w ty (parts.map fun (i, x) => (i, a.eval x)) cells.toArray hb
  unfold Oper.wp execOp
  simp only [ho, Sem.run_bind, Sem.run_pure, hr, Result.andThen_ok]
  exact hK _ _ h

theorem foldl_seg : ∀ (B : List Value) (L : List Value) (off : Nat), off + B.length ≤ L.length →
    ∀ k, (B.zipIdx k).foldl (fun (cs : Array Value) (x : Value × Nat) => cs.setIfInBounds (off + x.2) x.1) L.toArray = (L.take (off + k) ++ B ++ L.drop (off + k + B.length)).toArray ∨ ¬ off + k + B.length ≤ L.length
  | [], L, off, _, k => .inl (by simp)
  | v :: B, L, off, h, k => by
    by_cases hk : off + k + (v :: B).length ≤ L.length
    · have ih := foldl_seg B (L.set (off + k) v) off (by simp at h ⊢; omega) (k + 1)
      rcases ih with ih | ih
      · refine .inl ?_
        rw [List.zipIdx_cons, List.foldl_cons]
        simp only [List.setIfInBounds_toArray]
        rw [ih]
        have e := list_seg_step L (off + k) v B (by simp at hk; omega)
        have e1 : off + (k + 1) = off + k + 1 := by omega
        rw [e1, e]
        simp [Nat.add_assoc]
      · exact absurd (by simp at hk ⊢; omega) ih
    · exact .inr hk

theorem foldl_seg0 (B L : List Value) (off : Nat) (h : off + B.length ≤ L.length) :
    (B.toArray.zipIdx.foldl (fun (cs : Array Value) (x : Value × Nat) => cs.setIfInBounds (off + x.2) x.1) L.toArray) = (L.take off ++ B ++ L.drop (off + B.length)).toArray := by
  have := foldl_seg B L off h 0
  rcases this with h1 | h1
  · rw [Nat.add_zero] at h1
    rw [← h1]
    simp
  · exact absurd (by omega) h1
end

noncomputable def zeroL (ty : TypeId) : List Value :=
  match Tryz.prog.info? ty with
  | some i => match i.zero with
    | some z => z.cells.toList
    | none => []
  | none => []
theorem zero_answer : ∃ Z, Z.length = 167 ∧ zeroIs Tryz.prog 61 Z := ⟨zeroL 61, by kernel_rfl, by unfold zeroIs; kernel_rfl⟩
theorem zero_block : ∃ Z, Z.length = 166 ∧ zeroIs Tryz.prog 59 Z := ⟨zeroL 59, by kernel_rfl, by unfold zeroIs; kernel_rfl⟩
theorem zero_header : ∃ Z, Z.length = 131 ∧ zeroIs Tryz.prog 53 Z := ⟨zeroL 53, by kernel_rfl, by unfold zeroIs; kernel_rfl⟩
theorem zero_commit : ∃ Z, Z.length = 34 ∧ zeroIs Tryz.prog 56 Z := ⟨zeroL 56, by kernel_rfl, by unfold zeroIs; kernel_rfl⟩
theorem build_block0 : ∃ Z, Z.length = 166 ∧ zeroIs Tryz.prog 59 Z ∧ Tryz.prog.built 59 [] = some Z.toArray ∧ ∀ v ∈ Z, v.oneCell' = true := ⟨zeroL 59, by kernel_rfl, by unfold zeroIs; kernel_rfl, by kernel_rfl, by
  have h : (zeroL 59).all (·.oneCell') = true := by kernel_rfl
  exact fun v hv => List.all_eq_true.1 h v hv⟩
theorem info_answer : (Tryz.prog.info? 61).map (·.size) = some 167 := by kernel_rfl
theorem info_manswer : (Tryz.prog.info? 206).map (·.size) = some 167 := by kernel_rfl

/-- A new block of a type, and cells stored in it. -/
theorem stnew {c : Col} {w : World} (hok : Ok c w) {ty : TypeId} {Z B : List Value} {n : Nat} (hZ : Z.length = n) (hB : B.length = n) (h1 : ∀ v ∈ B, v.oneCell' = true) (hi : (Tryz.prog.info? ty).map (·.size) = some n) {q : Nat} (hq : q ≠ 0) :
    ∃ W c', (w.alloc (.cells Z.toArray ty)).setCells w.heap.size 0 B = W ∧ At c' W w.heap.size q B ∧ Ok c' W ∧ Step No c w c' W ∧
      (w.alloc (.cells Z.toArray ty)).there w.heap.size 0 B.toArray.size ∧ (Tryz.prog.info? ty).map (·.size) = some B.toArray.size ∧ B.toArray.all (·.oneCell') = true ∧ (Tryz.prog.info? ty).map (·.size) = some B.length := by
  obtain ⟨a, o, s⟩ := newAt hok Z ty q
  have hi0 : (Tryz.prog.info? ty).map (·.size) = some B.length := by rw [hi, hB]
  have hi1 : (Tryz.prog.info? ty).map (·.size) = some B.toArray.size := by rw [hi]; simp [hB]
  obtain ⟨_, a2⟩ := a.st o hq (ty := ty) (us := B) (by rw [hB, hZ]) hi0 h1
  exact ⟨_, _, rfl, a2, Ok.setCells _ _ _ o, Step.setCells (.inl (Nat.le_refl _)) _ _ _ s, a.there o hq (by simp [hB, hZ]), hi1, all_oneCell_toArray h1, hi0⟩
end Go.Proofs.YtgcobbapaaihiaaGreat

set_option linter.unusedVariables false
set_option linter.unusedSimpArgs false
namespace Go.Proofs.YtgcobbapaaihiaaGreat
open Go.RowKit

/-- A writer: the struct, of colour k, its row, of colour kb. -/
structure IsWr (c : Col) (k kb : Nat) (w : World) (p : Nat) (lim : Int) (s : List UInt8 × Int) : Prop where
  row : ∃ bv, At c w p k [.int .i64 lim, bv, .int .i64 s.2, .bool true] ∧ Own TByte 5 c kb 0 w bv s.1

theorem IsWr.keep {K : Nat → Prop} {c c' : Col} {k kb : Nat} {w w' : World} {p : Nat} {lim : Int} {s : List UInt8 × Int} (h : IsWr c k kb w p lim s) (hs : Step K c w c' w') (hk : ¬ K k) (hb : ¬ K kb) (h0 : ¬ K 0) : IsWr c' k kb w' p lim s := by
  obtain ⟨bv, a, o⟩ := h.row
  exact ⟨bv, a.keep hs hk, o.keep hs hb h0⟩
theorem IsWr.kn {c c' : Col} {k kb : Nat} {w w' : World} {p : Nat} {lim : Int} {s : List UInt8 × Int} (h : IsWr c k kb w p lim s) (hs : Step No c w c' w') : IsWr c' k kb w' p lim s := h.keep hs (fun h => h) (fun h => h) (fun h => h)

/-- What is put. -/
def putS (lim : Int) (s : List UInt8 × Int) (may : Bool) (x : List UInt8) : List UInt8 × Int :=
  if s.2 ≠ 0 then s else if may = false then (s.1, 3) else if lim < (s.1.length : Int) + x.length then (s.1, 4) else (s.1 ++ x, 0)

section
variable {c : Col} {w : World}

theorem At.set2 {c : Col} {W : World} {b k : Nat} {v0 v1 v2 v3 : Value} (h : At c W b k [v0, v1, v2, v3]) (u : Value) : At c (W.setCell ⟨b, 2, none⟩ u) b k [v0, v1, u, v3] := h.setN (i := 2) (by simp) u
theorem At.set1 {c : Col} {W : World} {b k : Nat} {v0 v1 v2 v3 : Value} (h : At c W b k [v0, v1, v2, v3]) (u : Value) : At c (W.setCell ⟨b, 1, none⟩ u) b k [v0, u, v2, v3] := h.setN (i := 1) (by simp) u

set_option maxRecDepth 100000 in
set_option maxHeartbeats 1600000 in
theorem put_any (hok : Ok c w) {k kb : Nat} {p : Nat} {lim : Int} {s : List UInt8 × Int} (h : IsWr c k kb w p lim s) (hk0 : k ≠ 0) (hb0 : kb ≠ 0) (hkb : kb ≠ k) (hlim : lim ≤ 1048576) (hl0 : (s.1.length : Int) ≤ lim)
    (may : Bool) {v : Value} {ls : List (List UInt8)} (hv : Sl TBs c 0 0 w v ls) (hn0 : 0 < ls.length) (hn : ls.length ≤ 1000) (ht : ls.flatten.length ≤ 1000000000) :
    Calls Tryz.prog 200 #[.pointer (some ⟨p, 0, none⟩), .bool may, v] w fun r w' => r = .returned (.int .i64 (putS lim s may ls.flatten).2) ∧
      ∃ c', IsWr c' k kb w' p lim (putS lim s may ls.flatten) ∧ Step (Two k kb) c w c' w' ∧ Ok c' w' := by
  obtain ⟨bs, e⟩ := s
  obtain ⟨bv, a, ow⟩ := h.row
  obtain ⟨ba, bc, rfl, _⟩ := ow.sl.form
  have y0 := a.get (i := 0) rfl
  have y2 := a.get (i := 2) rfl
  have y3 := a.get (i := 3) rfl
  have C := concat_any hok hv hn0 hn ht 0
  have HA := Lib.hid (And.intro a ow)
  clear h a ow hv
  obtain ⟨fl, hfl⟩ : ∃ fl, ls.flatten = fl := ⟨_, rfl⟩
  rw [hfl] at C ht ⊢
  clear hfl
  have fin : ∀ {c1 w1}, Step No c w c1 w1 → Ok c1 w1 → IsWr c1 k kb w1 p lim (bs, e) := fun hs ho => ⟨_, (HA.out.1).keep hs (fun h => h), (HA.out.2).kn hs⟩
  go_enter Tryz.func200, Tryz.ntmps200
  go_wp2_with fail
  with_reducible refine C.mono ?_
  rintro e1 w1 ⟨v1, rfl, c1, p1, s1, o1⟩
  obtain ⟨va, vc, rfl, _⟩ := p1.sl.form
  have a1 := HA.out.1.keep s1 (fun h => h)
  have ow1 := HA.out.2.kn s1
  have x0 := a1.get (i := 0) rfl
  have x1 := a1.get (i := 1) rfl
  have x2 := a1.get (i := 2) rfl
  have x2f := a1.fz o1 hk0 2
  have x1f := a1.fz o1 hk0 1
  clear C y0 y2 y3
  have T1 := s1.ofNo (K := Two k kb)
  have hk2 : c1 p = k := a1.col
  have D1 : ∀ n u, At c1 ((w1.drewN n).setCell ⟨p, 2, none⟩ u) p k [.int .i64 lim, .slice ba bs.length bc, u, .bool true] := fun n u => (a1.keep (Step.rf.drewN (K := No) n) (fun h => h)).set2 u
  have E1 : ∀ n u, Own TByte 5 c1 kb 0 ((w1.drewN n).setCell ⟨p, 2, none⟩ u) (.slice ba bs.length bc) bs := fun n u => (ow1.kn (Step.rf.drewN n)).set (a := ⟨p, 2, none⟩) (by show c1 p ≠ kb; omega) (by show c1 p ≠ 0; omega) u
  have F1 : ∀ n u, Step (Two k kb) c w c1 ((w1.drewN n).setCell ⟨p, 2, none⟩ u) := fun n u => (T1.drewN n).setCell (.inr (.inl HA.out.1.col)) u
  by_cases he : e = 0
  · subst he
    rcases may with _ | _
    · have P1 := Lib.hid (And.intro D1 (And.intro E1 (And.intro F1 o1)))
      clear a1 ow1 s1 o1 p1 D1 E1 F1 T1 hk2
      go_wp2_with fail
      go_ret
      obtain ⟨D1, E1, F1, o1⟩ := P1.out
      exact ⟨rfl, c1, ⟨_, D1 0 _, E1 0 _⟩, F1 0 _, o1.setCell _ _⟩
    · by_cases hlong : lim < (bs.length : Int) + fl.length
      · have hp : putS lim (bs, 0) true fl = (bs, 4) := by simp [putS, hlong]
        have HP := Lib.hid hp
        have hw : IntKind.i64.wrap ((bs.length : Int) + fl.length) = (bs.length : Int) + fl.length := IntWalk.i64_in _ (by omega)
        have P1 := Lib.hid (And.intro D1 (And.intro E1 (And.intro F1 o1)))
        clear a1 ow1 s1 o1 p1 D1 E1 F1 T1 hk2 hp
        go_wp2_with fail
        go_quiet (fail)
        go_wp2_with fail
        go_ret
        obtain ⟨D1, E1, F1, o1⟩ := P1.out
        rw [HP.out]
        exact ⟨rfl, c1, ⟨_, D1 _ _, E1 _ _⟩, F1 _ _, (o1.drewN _).setCell _ _⟩
      · have hp : putS lim (bs, 0) true fl = (bs ++ fl, 0) := by simp [putS, hlong]
        have HP := Lib.hid hp
        have hw : IntKind.i64.wrap ((bs.length : Int) + fl.length) = (bs.length : Int) + fl.length := IntWalk.i64_in _ (by omega)
        have hn1 : bs.length + fl.length ≤ maxLen := by simp only [maxLen]; omega
        have hn2 : (bs.length + fl.length) * 1 ≤ 140737488355328 := by omega
        have hb1 : 0 ≠ kb := fun e => hb0 e.symm
        have hsl := p1.sl
        have P1 := Lib.hid (And.intro a1 (And.intro T1 hk2))
        clear a1 s1 D1 E1 F1 T1 hk2 hp p1
        go_wp2_with fail
        go_quiet (fail)
        go_wp2_with (at_builtin; refine wpList_app TByte (o1.drewN _) rfl _ _ 26 rfl 5 Tryz.underlying26 infoU8 rfl (by decide) rfl rfl (ow1.kn (Step.rf.drewN _)) (hsl.kn (Step.rf.drewN _)) hb1 hn1 hn2 ?_; rintro v6 w6 c6 b1 b2 b3 -; obtain ⟨va6, vc6, rfl, _⟩ := b1.sl.form; have a6 := (P1.out.1.keep (Step.rf.drewN (K := No) _) (fun h => h)).keep b2 (show ¬ k = kb by omega); have z1 := a6.get (i := 1) rfl; have z2 := a6.get (i := 2) rfl; have z1f := a6.fz b3 hk0 1; rw [show (bs ++ fl).length = bs.length + fl.length by simp] at b1 ⊢; have P6 := Lib.hid (And.intro a6 (And.intro b1 (And.intro b2 b3))); clear a6 b1 b2 b3 ow1 hsl)
        go_ret
        obtain ⟨a6, b1, b2, b3⟩ := P6.out
        obtain ⟨a1, T1, hk2⟩ := P1.out
        rw [HP.out]
        have hc6 : c6 p = k := a6.col
        exact ⟨rfl, c6, ⟨_, a6.set1 _, b1.set (a := ⟨p, 1, none⟩) (by show c6 p ≠ kb; omega) (by show c6 p ≠ 0; omega) _⟩, ((T1.drewN _).trans (b2.mono fun _ h => .inr h)).setCell (.inr (.inl HA.out.1.col)) _, b3.setCell _ _⟩
  · have hp : putS lim (bs, e) may fl = (bs, e) := by simp [putS, he]
    have HP := Lib.hid hp
    have P1 := Lib.hid (And.intro a1 (And.intro ow1 (And.intro T1 o1)))
    have he' : (e == 0) = false := beq_eq_false_iff_ne.2 he
    clear a1 ow1 s1 o1 p1 D1 E1 F1 T1 hk2 hp
    go_wp2_with fail
    go_ret
    obtain ⟨a1, ow1, T1, o1⟩ := P1.out
    rw [HP.out]
    exact ⟨rfl, c1, ⟨_, a1, ow1⟩, T1, o1⟩
end
end Go.Proofs.YtgcobbapaaihiaaGreat

set_option linter.unusedVariables false
set_option linter.unusedSimpArgs false
namespace Go.Proofs.YtgcobbapaaihiaaGreat
open Go.RowKit

section
variable {c : Col} {w : World}

theorem Col.put_fresh (hok : Ok c w) : c.put w.heap.size 0 = c := by
  funext b
  unfold Col.put
  split
  · next h => subst h; exact (hok.fresh _ (Nat.le_refl _)).symm
  · rfl

/-- Rows of cells that read as a list. -/
def Rds {α : Type} (T : Ty α) (c : Col) (k2 : Nat) (w : World) : List (List Value) → List α → Prop
  | [], [] => True
  | v :: vs, x :: xs => T.rd c k2 w v x ∧ Rds T c k2 w vs xs
  | _, _ => False

theorem Rds.get {α : Type} {T : Ty α} {k2 : Nat} : ∀ {vs : List (List Value)} {xs : List α}, Rds T c k2 w vs xs → ∀ (i : Nat) x, xs[i]? = some x → ∃ v, vs[i]? = some v ∧ T.rd c k2 w v x
  | [], [], _, i, x, h => by simp at h
  | [], _ :: _, h, _, _, _ => h.elim
  | _ :: _, [], h, _, _, _ => h.elim
  | v :: vs, y :: ys, h, 0, x, hi => by simp at hi; subst hi; exact ⟨v, rfl, h.1⟩
  | v :: vs, y :: ys, h, i + 1, x, hi => by
    obtain ⟨u, h1, h2⟩ := Rds.get h.2 i x (by simpa using hi)
    exact ⟨u, by simpa using h1, h2⟩

theorem Rds.len {α : Type} {T : Ty α} {k2 : Nat} : ∀ {vs : List (List Value)} {xs : List α}, Rds T c k2 w vs xs → vs.length = xs.length ∧ ∀ v ∈ vs, v.length = T.n
  | [], [], _ => ⟨rfl, by simp⟩
  | [], _ :: _, h => h.elim
  | _ :: _, [], h => h.elim
  | v :: vs, y :: ys, h => by
    obtain ⟨h1, h2⟩ := Rds.len h.2
    exact ⟨by simp [h1], fun u hu => by
      rcases List.mem_cons.1 hu with rfl | hu
      · exact T.len h.1
      · exact h2 u hu⟩

/-- A new row that is built out of parts. -/
theorem put_list {α : Type} {T : Ty α} (hok : Ok c w) (k2 : Nat) {xss : List (List Value)} {l : List α} (hr : Rds T c k2 w xss l) {cs : Array Value} (hcs : xss.flatten.toArray = cs) {n : Nat} (hn : l.length = n) (hm : n ≤ 1000) (e : TypeId) :
    Ok c (w.alloc (.cells cs e)) ∧ Sl T c 0 k2 (w.alloc (.cells cs e)) (.slice (some ⟨w.heap.size, 0, none⟩) n n) l ∧ Step No c w c (w.alloc (.cells cs e)) := by
  subst hcs hn
  obtain ⟨a1, a2, a3⟩ := Own.new T e hok 0 k2 xss l hr.len.1 (by simp [maxLen]; omega) hr.get hr.len.2
  rw [Col.put_fresh hok] at a1 a2 a3
  exact ⟨a2, a1.sl, a3⟩
end
end Go.Proofs.YtgcobbapaaihiaaGreat
