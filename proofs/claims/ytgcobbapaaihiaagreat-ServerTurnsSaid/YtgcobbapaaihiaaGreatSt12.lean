/- ServerTurns, part 12: lemmas, each with its own conditions. -/
import Derived.Test.YtgcobbapaaihiaaGreatSt02
import Derived.Test.YtgcobbapaaihiaaGreatSt03
import Derived.Test.YtgcobbapaaihiaaGreatSt09
import Derived.Test.YtgcobbapaaihiaaGreatSt11
import Derived.Great.Walk
set_option linter.unusedVariables false
set_option linter.unusedSimpArgs false
namespace Go.Proofs.YtgcobbapaaihiaaGreat
open Go.RowKit

section
variable {P : Program}
/-- A type's zero cells. -/
def zeroIs (P : Program) (ty : TypeId) (Z : List Value) : Prop := (P.info? ty).map (fun i => i.zero.map Value.cells) = some (some Z.toArray)

theorem run_alloc_zero {w : World} {ρ : Operand → Value} {o : Oper} (ty : TypeId) (ho : o.op = .alloc ty) {Z : List Value} (hz : zeroIs P ty Z) :
    (execOp ρ o).run P w = .ok (.value (.pointer (some ⟨w.heap.size, 0, none⟩))) (w.alloc (.cells Z.toArray ty)) := by
  unfold zeroIs at hz
  cases hi : P.info? ty with
  | none => rw [hi] at hz; cases hz
  | some i =>
    rw [hi] at hz
    simp only [Option.map_some, Option.some.injEq] at hz
    cases hzz : i.zero with
    | none => rw [hzz] at hz; cases hz
    | some z =>
      rw [hzz] at hz
      simp only [Option.map_some, Option.some.injEq] at hz
      rw [← hz]
      simp [execOp, ho, Instr.alloc, zeroValue, typeInfo, hi, hzz, newVar, newRow]

theorem wpList_alloc_zero {ops : Array Oper} {rest : List Oper} {o : Oper} {a : Act} {w : World} {Q : Exit → Act → World → Prop} (hg : o.guard = none) (dst : Option Tmp) (hdst : o.dst = dst) (ty : TypeId) (ho : o.op = .alloc ty) {Z : List Value} (hz : zeroIs P ty Z)
    (h : wpList P ops Q rest (a.put dst (.pointer (some ⟨w.heap.size, 0, none⟩))) (w.alloc (.cells Z.toArray ty))) : wpList P ops Q (o :: rest) a w := by
  refine wpList_plain hg fun K hK => ?_
  subst hdst
  unfold Oper.wp
  rw [run_alloc_zero ty ho hz, Oper.upon_value]
  exact hK _ _ h
end

section
variable {P : Program}
/-- A type's zero value. -/
def zeroAgg (P : Program) (ty : TypeId) (Z : List Value) : Prop := (P.info? ty).map (·.zero) = some (some (.agg Z.toArray))
theorem zeroAgg.is {ty : TypeId} {Z : List Value} (h : zeroAgg P ty Z) : zeroIs P ty Z := by
  unfold zeroAgg at h
  unfold zeroIs
  cases hi : P.info? ty with
  | none => rw [hi] at h; cases h
  | some i =>
    rw [hi] at h
    simp only [Option.map_some, Option.some.injEq] at h
    simp [h, Value.cells]

/-- A literal whose cells are said. -/
theorem wpList_build_is {ops : Array Oper} {rest : List Oper} {o : Oper} {a : Act} {w : World} {Q : Exit → Act → World → Prop} (hg : o.guard = none) (dst : Option Tmp) (hdst : o.dst = dst) (ty : TypeId) (parts : Array (Nat × Operand)) (ho : o.op = .build ty parts) (cells : List Value)
    (hb : P.built ty (parts.map fun (i, x) => (i, a.eval x)).toList = some cells.toArray) (h : wpList P ops Q rest (a.put dst (.agg cells.toArray)) w) : wpList P ops Q (o :: rest) a w := by
  refine wpList_plain hg fun K hK => ?_
  subst hdst
  have hr := run_build (P := P) w ty (parts.map fun (i, x) => (i, a.eval x)) cells.toArray hb
  unfold Oper.wp execOp
  simp only [ho, Sem.run_bind, Sem.run_pure, hr, Result.andThen_ok]
  exact hK _ _ h

theorem foldl_seg : ∀ (B : List Value) (L : List Value) (off : Nat), off + B.length ≤ L.length →
    ∀ k, (B.zipIdx k).foldl (fun (cs : Array Value) (x : Value × Nat) => cs.setIfInBounds (off + x.2) x.1) L.toArray = (L.take (off + k) ++ B ++ L.drop (off + k + B.length)).toArray ∨ ¬ off + k + B.length ≤ L.length
  | [], L, off, _, k => .inl (by simp)
  | v :: B, L, off, h, k => by
    by_cases hk : off + k + (v :: B).length ≤ L.length
    · have ih := foldl_seg B (L.set (off + k) v) off (by simp at h ⊢; omega) (k + 1)
      rcases ih with ih | ih
      · refine .inl ?_
        rw [List.zipIdx_cons, List.foldl_cons]
        simp only [List.setIfInBounds_toArray]
        rw [ih]
        have e := list_seg_step L (off + k) v B (by simp at hk; omega)
        have e1 : off + (k + 1) = off + k + 1 := by omega
        rw [e1, e]
        simp [Nat.add_assoc]
      · exact absurd (by simp at hk ⊢; omega) ih
    · exact .inr hk

theorem foldl_seg0 (B L : List Value) (off : Nat) (h : off + B.length ≤ L.length) :
    (B.toArray.zipIdx.foldl (fun (cs : Array Value) (x : Value × Nat) => cs.setIfInBounds (off + x.2) x.1) L.toArray) = (L.take off ++ B ++ L.drop (off + B.length)).toArray := by
  have := foldl_seg B L off h 0
  rcases this with h1 | h1
  · rw [Nat.add_zero] at h1
    rw [← h1]
    simp
  · exact absurd (by omega) h1
end

noncomputable def zeroL (ty : TypeId) : List Value :=
  match Tryz.prog.info? ty with
  | some i => match i.zero with
    | some z => z.cells.toList
    | none => []
  | none => []
theorem zero_answer : ∃ Z, Z.length = 167 ∧ zeroIs Tryz.prog 61 Z := ⟨zeroL 61, by kernel_rfl, by unfold zeroIs; kernel_rfl⟩
theorem zero_block : ∃ Z, Z.length = 166 ∧ zeroIs Tryz.prog 59 Z := ⟨zeroL 59, by kernel_rfl, by unfold zeroIs; kernel_rfl⟩
theorem zero_header : ∃ Z, Z.length = 131 ∧ zeroIs Tryz.prog 53 Z := ⟨zeroL 53, by kernel_rfl, by unfold zeroIs; kernel_rfl⟩
theorem zero_commit : ∃ Z, Z.length = 34 ∧ zeroIs Tryz.prog 56 Z := ⟨zeroL 56, by kernel_rfl, by unfold zeroIs; kernel_rfl⟩
theorem build_block0 : ∃ Z, Z.length = 166 ∧ zeroIs Tryz.prog 59 Z ∧ Tryz.prog.built 59 [] = some Z.toArray ∧ ∀ v ∈ Z, v.oneCell' = true := ⟨zeroL 59, by kernel_rfl, by unfold zeroIs; kernel_rfl, by kernel_rfl, by
  have h : (zeroL 59).all (·.oneCell') = true := by kernel_rfl
  exact fun v hv => List.all_eq_true.1 h v hv⟩
theorem info_answer : (Tryz.prog.info? 61).map (·.size) = some 167 := by kernel_rfl
theorem info_manswer : (Tryz.prog.info? 206).map (·.size) = some 167 := by kernel_rfl

/-- A new block of a type, and cells stored in it. -/
theorem stnew {c : Col} {w : World} (hok : Ok c w) {ty : TypeId} {Z B : List Value} {n : Nat} (hZ : Z.length = n) (hB : B.length = n) (h1 : ∀ v ∈ B, v.oneCell' = true) (hi : (Tryz.prog.info? ty).map (·.size) = some n) {q : Nat} (hq : q ≠ 0) :
    ∃ W c', (w.alloc (.cells Z.toArray ty)).setCells w.heap.size 0 B = W ∧ At c' W w.heap.size q B ∧ Ok c' W ∧ Step No c w c' W ∧
      (w.alloc (.cells Z.toArray ty)).there w.heap.size 0 B.toArray.size ∧ (Tryz.prog.info? ty).map (·.size) = some B.toArray.size ∧ B.toArray.all (·.oneCell') = true ∧ (Tryz.prog.info? ty).map (·.size) = some B.length := by
  obtain ⟨a, o, s⟩ := newAt hok Z ty q
  have hi0 : (Tryz.prog.info? ty).map (·.size) = some B.length := by rw [hi, hB]
  have hi1 : (Tryz.prog.info? ty).map (·.size) = some B.toArray.size := by rw [hi]; simp [hB]
  obtain ⟨_, a2⟩ := a.st o hq (ty := ty) (us := B) (by rw [hB, hZ]) hi0 h1
  exact ⟨_, _, rfl, a2, Ok.setCells _ _ _ o, Step.setCells (.inl (Nat.le_refl _)) _ _ _ s, a.there o hq (by simp [hB, hZ]), hi1, all_oneCell_toArray h1, hi0⟩
end Go.Proofs.YtgcobbapaaihiaaGreat

set_option linter.unusedVariables false
set_option linter.unusedSimpArgs false
namespace Go.Proofs.YtgcobbapaaihiaaGreat
open Go.RowKit

theorem Blo.At.turn {b : Blo} {c : Col} {q k : Nat} {w : World} {vc vv : Value} (h : b.At c q w vc vv) : b.At (c.turn q k) k w vc vv :=
  ⟨h.h, h.hash, h.height, h.votes.turnAll, h.vals.turnAll, h.nvotes, h.nvals⟩

/-- A block, as an element. -/
def TBlo : Ty Blo where
  n := 166
  rd := fun c k w vs b => ∃ vc vv, vs = bloC b vc vv ∧ b.At c k w vc vv
  len := by rintro _ _ _ _ _ ⟨vc, vv, rfl, h⟩; exact bloC_len h.h h.hash vc vv
  one := by rintro _ _ _ _ _ ⟨vc, vv, rfl, h⟩; exact bloC_one h
  keep := by rintro _ _ _ _ _ _ _ _ hs hk ⟨vc, vv, h, ha⟩; exact ⟨vc, vv, h, ha.keep hs hk⟩
  turn := by rintro _ _ _ _ _ _ ⟨vc, vv, h, ha⟩; exact ⟨vc, vv, h, ha.turn⟩

theorem infoVal3 : (Tryz.prog.info? 93).map (fun i => (i.zero, i.size, i.bytes)) = some (some (.agg #[.int .u8 0, .int .u8 0, .int .u8 0, .int .u8 0, .int .i64 0]), 5, 16) := by kernel_rfl
theorem infoVot3 : (Tryz.prog.info? 106).map (fun i => (i.zero, i.size, i.bytes)) = some (some (.agg #[.int .i64 0, .int .u64 0]), 2, 16) := by kernel_rfl

section
variable {c : Col} {w : World}

theorem vclone_any (hok : Ok c w) {kx : Nat} (k : Nat) {v : Value} {l : List Vld} (hv : Sl TVal c kx 0 w v l) (hlen : l.length ≤ 1000000000) :
    Calls Tryz.prog 44 #[v] w fun e w' => ∃ v' c', e = .returned v' ∧ Own TVal 93 c' k 0 w' v' l ∧ Step No c w c' w' ∧ Ok c' w' := by
  have hn := fun (w : World) a n c => Lib.run_eql_slice_nil (P := Tryz.prog) w 57 93 a n c 0 0 Tryz.underlying57
  obtain ⟨va, vc, rfl, hva⟩ := hv.form
  cases va with
  | none =>
    obtain ⟨rfl, rfl⟩ := hva rfl
    clear hv hva hlen
    simp only [List.length_nil]
    go_enter Tryz.func44, Tryz.ntmps44
    go_wp2
    go_ret
    exact ⟨_, c, rfl, Own.nil _ _ _ _ _ _, Step.refl, hok⟩
  | some ad =>
    obtain ⟨q, hq, hqc⟩ := hok.spare kx
    have hqk : 0 ≠ q := by omega
    have hq0 : q ≠ 0 := by omega
    obtain ⟨o1, o2, o3⟩ := Own.new0 TVal 93 hok q 0
    have hx' := hv.keep o3 (fun h => h) (fun h => h)
    have hml : ([] : List Vld).length + l.length ≤ maxLen := by simp [maxLen]; omega
    have hbl : (([] : List Vld).length + l.length) * 16 ≤ 140737488355328 := by simp; omega
    clear hv hva
    go_enter Tryz.func44, Tryz.ntmps44
    go_wp2_with (at_builtin; refine wpList_app TVal o2 rfl _ _ 57 rfl 93 Tryz.underlying57 infoVal3 rfl (by decide) rfl rfl o1 hx' hqk hml hbl ?_; intro v' w' c' a1 a2 a3 _)
    go_ret
    exact ⟨v', c'.turn q k, rfl, a1.turn hqk, ((o3.ofNo.trans a2).turn rfl).own hqc, a3.turn hq0⟩

theorem cclone_any (hok : Ok c w) {kx : Nat} (k : Nat) {v : Value} {l : List Vot} (hv : Sl TVot c kx 0 w v l) (hlen : l.length ≤ 1000000000) :
    Calls Tryz.prog 45 #[v] w fun e w' => ∃ v' c', e = .returned v' ∧ Own TVot 106 c' k 0 w' v' l ∧ Step No c w c' w' ∧ Ok c' w' := by
  have hn := fun (w : World) a n c => Lib.run_eql_slice_nil (P := Tryz.prog) w 54 106 a n c 0 0 Tryz.underlying54
  obtain ⟨va, vc, rfl, hva⟩ := hv.form
  cases va with
  | none =>
    obtain ⟨rfl, rfl⟩ := hva rfl
    clear hv hva hlen
    simp only [List.length_nil]
    go_enter Tryz.func45, Tryz.ntmps45
    go_wp2
    go_ret
    exact ⟨_, c, rfl, Own.nil _ _ _ _ _ _, Step.refl, hok⟩
  | some ad =>
    obtain ⟨q, hq, hqc⟩ := hok.spare kx
    have hqk : 0 ≠ q := by omega
    have hq0 : q ≠ 0 := by omega
    obtain ⟨o1, o2, o3⟩ := Own.new0 TVot 106 hok q 0
    have hx' := hv.keep o3 (fun h => h) (fun h => h)
    have hml : ([] : List Vot).length + l.length ≤ maxLen := by simp [maxLen]; omega
    have hbl : (([] : List Vot).length + l.length) * 16 ≤ 140737488355328 := by simp; omega
    clear hv hva
    go_enter Tryz.func45, Tryz.ntmps45
    go_wp2_with (at_builtin; refine wpList_app TVot o2 rfl _ _ 54 rfl 106 Tryz.underlying54 infoVot3 rfl (by decide) rfl rfl o1 hx' hqk hml hbl ?_; intro v' w' c' a1 a2 a3 _)
    go_ret
    exact ⟨v', c'.turn q k, rfl, a1.turn hqk, ((o3.ofNo.trans a2).turn rfl).own hqc, a3.turn hq0⟩
end
end Go.Proofs.YtgcobbapaaihiaaGreat

set_option linter.unusedVariables false
set_option linter.unusedSimpArgs false
namespace Go.Proofs.YtgcobbapaaihiaaGreat
open Go.RowKit

theorem Sl.anyV {c : Col} {k k2 : Nat} {w : World} {v : Value} {l : List Vld} (h : Sl TVal c k k2 w v l) (k3 : Nat) : Sl TVal c k k3 w v l := h
theorem Sl.anyC {c : Col} {k k2 : Nat} {w : World} {v : Value} {l : List Vot} (h : Sl TVot c k k2 w v l) (k3 : Nat) : Sl TVot c k k3 w v l := h

/-- The first block of a height. -/
def getB (l : List Blo) (h : Int) : Option Blo := l.find? fun b => b.h.height == h

/-- A bool and a block's cells (two results: a cell, and a value). -/
theorem results_cell_mid2' {fn : Func} {p q : Tmp} {ty : TypeId} (h : fn.results = #[.cell p ty, .tmp q]) (tmps : Array Value) (W : World) (b o : Nat) (cs : List Value) (d : TypeDesc) (hp : tmps[p]? = some (.pointer (some ⟨b, o, none⟩)))
    (hc : W.rangeAt b o cs) (hu : Tryz.prog.underlying ty = some d) (hd : d.isRow = true) (hi : (Tryz.prog.info? ty).map (·.size) = some cs.length) :
    (results fn tmps).run Tryz.prog W = .ok (.tuple #[.agg cs.toArray, tmps.getD q undef]) W := by
  have := run_loadVar_mid W b o ty cs d hc hu hd hi
  have hp' : tmps[p]?.getD undef = .pointer (some ⟨b, o, none⟩) := by rw [hp]; rfl
  simp [results, h, hp', asAddr, this]

section
variable {c : Col} {w : World}

set_option maxRecDepth 100000 in
theorem get1_any (hok : Ok c w) {b : Blo} {k : Nat} {vc vv : Value} (hb : b.At c k w vc vv) {hx : Nat} {h : Int} (hh : w.cell? ⟨hx, 0, none⟩ = some (.int .i64 h)) :
    Calls Tryz.prog 43 #[.agg (bloC b vc vv).toArray, .pointer (some ⟨hx, 0, none⟩)] w fun r w' => r = .returned (.bool (b.h.height == h)) ∧ ∃ c', Step No c w c' w' ∧ Ok c' w' := by
  have a0 := At.new0 hok (bloC b vc vv) 59
  have o0 := hok.alloc (.cells (bloC b vc vv).toArray 59)
  have s0 : Step No c w c (w.alloc (.cells (bloC b vc vv).toArray 59)) := Step.refl.alloc _
  have y0 := a0.get (i := 1) (u := .int .i64 b.h.height) rfl
  have yh := (s0.cell (World.block_lt_of_cell? w _ hh) (fun h => h)).trans hh
  obtain ⟨xb, hxb⟩ : ∃ b, w.heap.size = b := ⟨_, rfl⟩
  rw [hxb] at y0
  obtain ⟨B, hB⟩ : ∃ B, bloC b vc vv = B := ⟨_, rfl⟩
  rw [hB] at o0 s0 y0 yh ⊢
  obtain ⟨H, hH⟩ : ∃ H, b.h.height = H := ⟨_, rfl⟩
  rw [hH] at y0 ⊢
  obtain ⟨W0, hW0⟩ : ∃ W, w.alloc (.cells B.toArray 59) = W := ⟨_, rfl⟩
  rw [hW0] at o0 s0 y0 yh
  have X := Lib.hid (And.intro s0 o0)
  clear a0 o0 s0 hb hok hB hH hh
  go_enter Tryz.func43, Tryz.ntmps43
  go_wp2_with fail
  go_ret
  exact ⟨rfl, c, X.out⟩

set_option maxRecDepth 100000 in
set_option maxHeartbeats 1600000 in
theorem index_any (hok : Ok c w) {kx k2 : Nat} {v : Value} {l : List Blo} (hl : Sl TBlo c kx k2 w v l) (hn : l.length ≤ 1000000000) {hx : Nat} {h : Int} (hh : w.cell? ⟨hx, 0, none⟩ = some (.int .i64 h)) :
    Calls Tryz.prog 42 #[v, .func (.func 43) #[] #[.pointer (some ⟨hx, 0, none⟩)]] w fun r w' =>
      ((r = .returned (.int .i64 (-1)) ∧ getB l h = none) ∨ ∃ (i : Nat) (b : Blo), r = .returned (.int .i64 i) ∧ l[i]? = some b ∧ getB l h = some b) ∧ ∃ c', Step No c w c' w' ∧ Ok c' w' := by
  obtain ⟨va, vc, rfl, _⟩ := hl.form
  have hxl := World.block_lt_of_cell? w _ hh
  have X0 := Lib.hid (And.intro hl (And.intro (Step.rf (c := c) (w := w)) hok))
  clear hl hok
  go_enter Tryz.func42, Tryz.ntmps42
  go_wp2_with fail
  go_loopw [8] (fun vi wr => ∃ (i : Nat) (cr : Col), i ≤ l.length ∧ vi = .int .i64 i ∧ getB l h = getB (l.drop i) h ∧ Sl TBlo cr kx k2 wr (.slice va l.length vc) l ∧ Step No c w cr wr ∧ Ok cr wr) (fun vi _ => l.length - (intOf vi).toNat)
  case atStart => exact ⟨0, c, Nat.zero_le _, rfl, by rw [List.drop_zero], X0.out⟩
  case round =>
    clear X0
    obtain ⟨i, cr, hi, rfl, hg, sl, st, ok⟩ := hrel
    by_cases hlt : i < l.length
    · obtain ⟨u, hu⟩ : ∃ u, l[i]? = some u := ⟨l[i], by simp [hlt]⟩
      have hdr : l.drop i = u :: l.drop (i + 1) := by rw [List.drop_eq_getElem_cons hlt]; rw [List.getElem?_eq_getElem hlt] at hu; injection hu with hu; rw [hu]
      obtain ⟨g, off, cap, e, hcap, hcm⟩ := sl.some (by omega)
      injection e with e1 _ e2
      subst e1 e2
      obtain ⟨vs, ⟨uc, uv, rfl, hb⟩, hcs⟩ := sl.at hu
      have G1 := get1_any ok hb ((st.cell hxl (fun h => h)).trans hh)
      have hbl := bloC_len hb.h hb.hash uc uv
      obtain ⟨B, hB⟩ : ∃ B, bloC u uc uv = B := ⟨_, rfl⟩
      rw [hB] at G1 hbl hcs
      have hg2 : getB l h = if (u.h.height == h) = true then some u else getB (l.drop (i + 1)) h := by
        rw [hg, hdr]; unfold getB; rw [List.find?_cons]; cases (u.h.height == h) <;> rfl
      obtain ⟨t, ht⟩ : ∃ t, (u.h.height == h) = t := ⟨_, rfl⟩
      rw [ht] at G1 hg2
      have SL := Lib.hid (And.intro hcs (show (Tryz.prog.info? 59).map (·.size) = some B.length by rw [info_blo, hbl]))
      have X := Lib.hid (And.intro sl (And.intro st (And.intro hg2 hu)))
      have hlt' : (i : Int) < (l.length : Int) := by omega
      clear hcs hbl hB sl st ok hg hg2 hdr hu hb ht
      rcases t with _ | _
      · go_wp2_with (refine wpList_load_mid rfl 59 _ rfl g (off + i * 166) rfl B _ SL.out.1 Tryz.underlying59 rfl SL.out.2 ?_)
        with_reducible refine G1.mono ?_
        rintro e1 w3 ⟨rfl, c3, s3, o3⟩
        have X3 := Lib.hid (And.intro (X.out.1.kn s3) (And.intro (X.out.2.1.trans s3) o3))
        clear G1 s3 o3
        go_wp2_with fail
        go_roundw
        case rel => exact ⟨i + 1, c3, by omega, by go_num, by simpa using X.out.2.2.1, X3.out⟩
        case measure => simp [intOf]; omega
      · go_wp2_with (refine wpList_load_mid rfl 59 _ rfl g (off + i * 166) rfl B _ SL.out.1 Tryz.underlying59 rfl SL.out.2 ?_)
        with_reducible refine G1.mono ?_
        rintro e1 w3 ⟨rfl, c3, s3, o3⟩
        have X3 := Lib.hid (And.intro (X.out.2.1.trans s3) o3)
        clear G1 s3 o3
        go_wp2_with fail
        go_ret
        exact ⟨.inr ⟨i, u, rfl, X.out.2.2.2, by simpa using X.out.2.2.1⟩, c3, X3.out⟩
    · have hil : i = l.length := by omega
      subst hil
      rw [List.drop_length] at hg
      have X3 := Lib.hid (And.intro st ok)
      have HG := Lib.hid hg
      clear sl st ok hg
      go_wp2_with fail
      go_ret
      exact ⟨.inl ⟨rfl, HG.out⟩, cr, X3.out⟩
end
end Go.Proofs.YtgcobbapaaihiaaGreat

set_option linter.unusedVariables false
set_option linter.unusedSimpArgs false
namespace Go.Proofs.YtgcobbapaaihiaaGreat
open Go.RowKit

/-- No block. -/
def zeroBlo : Blo := ⟨⟨[], 0, 0, List.replicate 32 0, List.replicate 32 0, List.replicate 32 0, List.replicate 32 0⟩, ⟨0, List.replicate 32 0, []⟩, []⟩
def zeroBC : List Value := bloC zeroBlo (.slice none 0 0) (.slice none 0 0)
theorem zeroB_built : Tryz.prog.built 59 [] = some zeroBC.toArray := by kernel_rfl
theorem zeroB_cells : Tryz.zeroCells59 = zeroBC.toArray := by kernel_rfl
theorem zeroB_zero : zeroIs Tryz.prog 59 zeroBC := by unfold zeroIs; kernel_rfl
theorem has0 : IntKind.i64.has 0 := by constructor <;> decide
theorem zeroB_at (c : Col) (k : Nat) (w : World) : zeroBlo.At c k w (.slice none 0 0) (.slice none 0 0) :=
  ⟨⟨by decide, has0, has0, by decide, by decide, by decide, by decide⟩, by decide, has0, Sl.nil _ _ _ _ _, Sl.nil _ _ _ _ _, by decide, by decide⟩

theorem bloC_set {b : Blo} (h1 : b.h.Wf) (h2 : b.cm.hash.length = 32) (vc vv vc' vv' : Value) : ((bloC b vc vv).set 165 vv').set 164 vc' = bloC b vc' vv' := by
  have e1 : (hdrC b.h).length = 131 := hdrC_len h1
  have e2 : (bC b.cm.hash).length = 32 := by rw [bC_len, h2]
  have e3 : (cmC b.cm vc).length = 34 := cmC_len h2 vc
  unfold bloC
  have i1 : (hdrC b.h ++ (cmC b.cm vc ++ [vv])).set 165 vv' = hdrC b.h ++ (cmC b.cm vc ++ [vv']) := by
    rw [List.set_append_right _ _ (by omega), e1, List.set_append_right _ _ (by omega), e3]; rfl
  have i2 : (cmC b.cm vc).set 33 vc' = cmC b.cm vc' := by
    unfold cmC
    rw [show (33 : Nat) = 32 + 1 from rfl, List.set_cons_succ, List.set_append_right _ _ (by omega), e2]
    rfl
  rw [i1, List.set_append_right _ _ (by omega), e1, List.set_append_left _ _ (by omega), show (164 - 131 : Nat) = 33 from rfl, i2]

def getD0 (l : List Blo) (h : Int) : Blo := (getB l h).getD zeroBlo

section
variable {c : Col} {w : World}

set_option maxRecDepth 100000 in
set_option maxHeartbeats 1600000 in
theorem get_any (hok : Ok c w) {kx k2 : Nat} {v : Value} {l : List Blo} (hl : Sl TBlo c kx k2 w v l) (hn : l.length ≤ 1000000000) (h : Int) :
    Calls Tryz.prog 29 #[v, .int .i64 h] w fun r w' => ∃ vc vv, r = .returned (.tuple #[.agg (bloC (getD0 l h) vc vv).toArray, .bool (getB l h).isSome]) ∧ ∃ c', (getD0 l h).At c' 0 w' vc vv ∧ Step No c w c' w' ∧ Ok c' w' := by
  obtain ⟨q, hq, hqc⟩ := hok.top (kx + k2)
  have hq0 : q ≠ 0 := by omega
  have ah := At.new0 hok [.int .i64 h] 3
  have oh := hok.alloc (.cells [.int .i64 h].toArray 3)
  have sh : Step No c w c (w.alloc (.cells [.int .i64 h].toArray 3)) := Step.refl.alloc _
  obtain ⟨ar, or_, sr⟩ := newAt oh zeroBC 59 q
  rw [World.size_alloc] at ar or_ sr
  have ah2 := ah.keep sr (fun h => h)
  have hl2 := (hl.kn sh).kn sr
  obtain ⟨hx, hhx⟩ : ∃ b, w.heap.size = b := ⟨_, rfl⟩
  rw [hhx] at ah2 ar or_ sr hl2
  obtain ⟨W1, hW1⟩ : ∃ W, (w.alloc (.cells #[.int .i64 h] 3)).alloc (.cells zeroBC.toArray 59) = W := ⟨_, rfl⟩
  have IX := index_any (c := c.put (hx + 1) q) (w := W1) (by rw [← hW1]; exact or_) (by rw [← hW1]; exact hl2) hn (by rw [← hW1]; exact ah2.c0)
  have X1 : RowKit.Hid (At (c.put (hx + 1) q) W1 (hx + 1) q zeroBC ∧ Sl TBlo (c.put (hx + 1) q) kx k2 W1 v l ∧ Step No c w (c.put (hx + 1) q) W1 ∧ Ok (c.put (hx + 1) q) W1) := Lib.hid (by rw [← hW1]; exact ⟨ar, hl2, sh.trans sr, or_⟩)
  obtain ⟨c1, hc1⟩ : ∃ c1, c.put (hx + 1) q = c1 := ⟨_, rfl⟩
  rw [hc1] at IX X1
  obtain ⟨va, vd, rfl, _⟩ := hl.form
  have hzl : zeroBC.length = 166 := by decide
  have hz1 : ∀ v ∈ zeroBC, v.oneCell' = true := bloC_one (zeroB_at c 0 w)
  have HZ := Lib.hid (And.intro zeroB_zero (And.intro zeroB_built (And.intro hzl hz1)))
  obtain ⟨ZB, hZB⟩ : ∃ Z, zeroBC = Z := ⟨_, rfl⟩
  have HZe := Lib.hid hZB
  have hzc := zeroB_cells
  rw [hZB] at hzc
  rw [hZB] at HZ X1 hW1
  clear ah oh sh ar or_ sr ah2 hl2 hl hok hc1 hzl hz1 hZB
  go_enter Tryz.func29, Tryz.ntmps29
  go_wp2_with (refine wpList_alloc_zero rfl (some 4) rfl 59 rfl HZ.out.1 ?_)
  (try simp only [World.size_alloc])
  (try rw [hhx])
  (try rw [hW1])
  with_reducible refine IX.mono ?_
  rintro e w2 ⟨hcase, c2, s2, o2⟩
  have X2 := Lib.hid (And.intro (X1.out.1.keep s2 (fun h => h)) (And.intro (X1.out.2.1.kn s2) (And.intro (X1.out.2.2.1.trans s2) o2)))
  clear IX s2 o2
  rcases hcase with ⟨rfl, hg⟩ | ⟨i, b, rfl, hib, hg⟩
  · have hb : getD0 l h = zeroBlo := by unfold getD0; rw [hg]; rfl
    have hi0 : (Tryz.prog.info? 59).map (·.size) = some ZB.length := by rw [info_blo, HZ.out.2.2.1]
    have hi1 : (Tryz.prog.info? 59).map (·.size) = some ZB.toArray.size := by rw [info_blo]; simp [HZ.out.2.2.1]
    have ht0 := X2.out.1.there (o := 0) (n := ZB.toArray.size) X2.out.2.2.2 hq0 (by simp)
    obtain ⟨_, a3⟩ := X2.out.1.st X2.out.2.2.2 hq0 (ty := 59) (us := ZB) rfl hi0 HZ.out.2.2.2
    have SL := Lib.hid (And.intro ht0 (And.intro hi1 (And.intro (all_oneCell_toArray HZ.out.2.2.2) (And.intro a3.cells hi0))))
    have X3 : RowKit.Hid (Step No c w c2 (w2.setCells (hx + 1) 0 ZB) ∧ Ok c2 (w2.setCells (hx + 1) 0 ZB)) := Lib.hid ⟨Step.setCells (.inl (by omega)) _ _ _ X2.out.2.2.1, Ok.setCells _ _ _ X2.out.2.2.2⟩
    have HB := Lib.hid (And.intro hb hg)
    clear hi0 hi1 ht0 a3 hb hg
    go_wp2_with (first | (refine wpList_build_is rfl (some 13) rfl 59 #[] rfl ZB HZ.out.2.1 ?_) | (refine wpList_store_mid rfl 59 _ _ rfl (hx + 1) 0 ZB.toArray rfl rfl SL.out.1 SL.out.2.1 SL.out.2.2.1 ?_))
    rw [HB.out.1, HB.out.2]
    refine bodyPost_ret (results_cell_mid2' rfl _ _ (hx + 1) 0 ZB _ rfl SL.out.2.2.2.1 Tryz.underlying59 rfl SL.out.2.2.2.2) rfl ⟨_, _, by rw [← HZe.out]; rfl, c2, zeroB_at _ _ _, X3.out⟩
  · obtain ⟨g, off, cap, e, hcap, hcm⟩ := X2.out.2.1.some (by have := (List.getElem?_eq_some_iff.1 hib).1; omega)
    injection e with e1 _ e2
    subst e1 e2
    obtain ⟨vs, ⟨uc, uv, rfl, hb⟩, hcs⟩ := X2.out.2.1.at hib
    have hbl := bloC_len hb.h hb.hash uc uv
    obtain ⟨W3, c3, hW3, a3, o3, s3, t1, t2, t3, t4⟩ := stnew X2.out.2.2.2 (ty := 59) HZ.out.2.2.1 hbl (bloC_one hb) info_blo (q := q + 1) (Nat.succ_ne_zero q)
    obtain ⟨bx, hbx⟩ : ∃ b, w2.heap.size = b := ⟨_, rfl⟩
    rw [hbx] at hW3 a3 t1
    have hlt' : (i : Int) < (l.length : Int) := by have := (List.getElem?_eq_some_iff.1 hib).1; omega
    have hb' : getD0 l h = b := by unfold getD0; rw [hg]; rfl
    have hb3 := hb.kn s3
    obtain ⟨p1, p2, p3⟩ := bloC_at hb.h hb.hash a3.cells
    have y165 := p3
    have y164 : W3.cell? ⟨bx, 164, none⟩ = some uc := by
      have h2 := (cells_app (xs := [.int .i64 b.cm.height]) p2).2
      have h3 := (cells_app h2).2 0 uc rfl
      simpa [bC_len, hb.hash] using h3
    rw [Nat.zero_add] at y165
    obtain ⟨ua, un, rfl, _⟩ := hb.votes.form
    obtain ⟨ub, um, rfl, _⟩ := hb.vals.form
    have yf5 := o3.soft bx 165 (by rw [a3.col]; exact Nat.succ_ne_zero q)
    have yf4 := o3.soft bx 164 (by rw [a3.col]; exact Nat.succ_ne_zero q)
    have VC := vclone_any (o3.drewN 1) 0 ((hb3.kn (Step.rf.drewN 1)).vals.anyV 0) hb.nvals
    have KK : (fun W : World => W.cell? ⟨bx, 165, none⟩ = some (.slice ub b.vals.length um) ∧ W.cell? ⟨bx, 164, none⟩ = some (.slice ua b.cm.votes.length un) ∧ W.frozen? ⟨bx, 165, none⟩ = false ∧ W.frozen? ⟨bx, 164, none⟩ = false) W3.drew := ⟨y165, y164, yf5, yf4⟩
    obtain ⟨B, hB⟩ : ∃ B, bloC b (.slice ua b.cm.votes.length un) (.slice ub b.vals.length um) = B := ⟨_, rfl⟩
    rw [hB] at hW3 a3 t1 t2 t3 t4 hcs
    have SL := Lib.hid (And.intro hcs (And.intro t4 (And.intro t1 (And.intro t2 t3))))
    have X3 := Lib.hid (And.intro a3 (And.intro hb3 (And.intro (X2.out.1.keep s3 (fun h => h)) (And.intro (X2.out.2.2.1.trans s3) (And.intro o3 hB)))))
    have HB := Lib.hid (And.intro hb' (And.intro hg hb))
    have HW3 := Lib.hid hW3
    have hbl3 : bx < W3.heap.size := a3.lt
    clear hcs t1 t2 t3 t4 a3 hb3 s3 o3 hB hb' hg hb p1 p2 p3 hbl hib X1 yf5 yf4 y165 y164 hW3
    go_wp2_with (first | (refine wpList_load_mid rfl 59 _ rfl g (off + i * 166) rfl B _ SL.out.1 Tryz.underlying59 rfl SL.out.2.1 ?_) | (refine wpList_alloc_zero rfl (some 7) rfl 59 rfl HZ.out.1 ?_; rw [hbx]) | (refine wpList_store_mid rfl 59 _ _ rfl bx 0 B.toArray rfl rfl SL.out.2.2.1 SL.out.2.2.2.1 SL.out.2.2.2.2 ?_; rw [HW3.out]))
    refine region_planM (fun W => W.cell? ⟨bx, 165, none⟩ = some (.slice ub b.vals.length um) ∧ W.cell? ⟨bx, 164, none⟩ = some (.slice ua b.cm.votes.length un) ∧ W.frozen? ⟨bx, 165, none⟩ = false ∧ W.frozen? ⟨bx, 164, none⟩ = false) (fun i => !([8, 9, 10, 11] : List Nat).contains i) (by kernel_rfl) ?_
    refine tk4 0 _ 18 rfl rfl KK ?_
    refine tk4 1 _ 19 rfl rfl KK ?_
    refine tk4 3 _ 21 rfl rfl KK ?_
    refine tk4 4 _ 22 rfl rfl KK ?_
    refine tk4 5 _ 23 rfl rfl KK ?_
    refine wpAnyM.one (i := 2) (by kernel_rfl) rfl (fun KQ hK => ?_)
    go_simp
    refine VC.mono ?_
    rintro e w4 ⟨v4, c4, rfl, p4, s4, o4⟩
    have CC := cclone_any o4 0 (((X3.out.2.1.kn (Step.rf.drewN 1)).kn s4).votes.anyC 0) HB.out.2.2.nvotes
    have KK : (fun W : World => W.cell? ⟨bx, 165, none⟩ = some (.slice ub b.vals.length um) ∧ W.cell? ⟨bx, 164, none⟩ = some (.slice ua b.cm.votes.length un) ∧ W.frozen? ⟨bx, 165, none⟩ = false ∧ W.frozen? ⟨bx, 164, none⟩ = false) w4 := ⟨(s4.cell hbl3 (fun h => h)).trans KK.1, (s4.cell hbl3 (fun h => h)).trans KK.2.1, (s4.frozen hbl3 (fun h => h)).trans KK.2.2.1, (s4.frozen hbl3 (fun h => h)).trans KK.2.2.2⟩
    obtain ⟨va4, vn4, rfl, _⟩ := p4.sl.form
    have X4 := Lib.hid (And.intro p4 s4)
    have hbl4 : bx < w4.heap.size := Nat.lt_of_lt_of_le hbl3 s4.size
    clear p4 s4 o4 VC
    go_simp
    refine hK.out _ _ (fun _ => KK) ?_
    clear hK KQ
    (try simp only [Act.put, List.setIfInBounds_toArray, List.set_cons_zero, List.set_cons_succ])
    refine tk4 7 _ 25 rfl rfl KK ?_
    refine wpAnyM.one (i := 6) (by kernel_rfl) rfl (fun KQ hK => ?_)
    go_simp
    refine CC.mono ?_
    rintro e w5 ⟨v5, c5, rfl, p5, s5, o5⟩
    have KK : (fun W : World => W.cell? ⟨bx, 165, none⟩ = some (.slice ub b.vals.length um) ∧ W.cell? ⟨bx, 164, none⟩ = some (.slice ua b.cm.votes.length un) ∧ W.frozen? ⟨bx, 165, none⟩ = false ∧ W.frozen? ⟨bx, 164, none⟩ = false) w5 := ⟨(s5.cell hbl4 (fun h => h)).trans KK.1, (s5.cell hbl4 (fun h => h)).trans KK.2.1, (s5.frozen hbl4 (fun h => h)).trans KK.2.2.1, (s5.frozen hbl4 (fun h => h)).trans KK.2.2.2⟩
    obtain ⟨va5, vn5, rfl, _⟩ := p5.sl.form
    have X5 := Lib.hid (And.intro (X4.out.1.sl.kn s5) (And.intro p5.sl (And.intro ((Step.rf.drewN (K := No) 1).trans (X4.out.2.trans s5)) o5)))
    have k1 := KK.1
    have k2' := KK.2.1
    have k3 := KK.2.2.1
    have k4 := KK.2.2.2
    clear p5 s5 o5 CC X4
    go_simp
    refine hK.out _ _ (fun _ => KK) ?_
    clear hK KQ
    (try simp only [Act.put, List.setIfInBounds_toArray, List.set_cons_zero, List.set_cons_succ])
    refine wpAnyM.one (i := 8) (by kernel_rfl) rfl (fun KQ hK => ?_)
    go_simp
    refine hK.out _ _ (fun h => absurd h (by decide)) ?_
    clear hK KQ
    (try simp only [Act.put, List.setIfInBounds_toArray, List.set_cons_zero, List.set_cons_succ])
    refine wpAnyM.one (i := 9) (by kernel_rfl) rfl (fun KQ hK => ?_)
    go_simp
    refine hK.out _ _ (fun h => absurd h (by decide)) ?_
    clear hK KQ
    (try simp only [Act.put, List.setIfInBounds_toArray, List.set_cons_zero, List.set_cons_succ])
    refine wpAnyM.one (i := 10) (by kernel_rfl) rfl (fun KQ hK => ?_)
    go_simp
    refine hK.out _ _ (fun h => absurd h (by decide)) ?_
    clear hK KQ
    (try simp only [Act.put, List.setIfInBounds_toArray, List.set_cons_zero, List.set_cons_succ])
    refine wpAnyM.one (i := 11) (by kernel_rfl) rfl (fun KQ hK => ?_)
    go_simp
    refine hK.out _ _ (fun h => absurd h (by decide)) ?_
    clear hK KQ
    (try simp only [Act.put, List.setIfInBounds_toArray, List.set_cons_zero, List.set_cons_succ])
    refine wpAnyM.done (by kernel_rfl) ?_ _
    -- the block that is told
    obtain ⟨bb, gg, hbA⟩ := HB.out
    have hBl : B.length = 166 := by rw [← X3.out.2.2.2.2.2]; exact bloC_len hbA.h hbA.hash _ _
    have a5 := X3.out.1.keep X5.out.2.2.1 (fun h => h)
    have a6 := (a5.setN (i := 165) (by rw [hBl]; decide) (.slice va4 b.vals.length vn4)).setN (i := 164) (by rw [List.length_set, hBl]; decide) (.slice va5 b.cm.votes.length vn5)
    rw [← X3.out.2.2.2.2.2, bloC_set hbA.h hbA.hash] at a6
    have s6 : Step (One (q + 1)) c5 w5 c5 ((w5.setCell ⟨bx, 165, none⟩ (.slice va4 b.vals.length vn4)).setCell ⟨bx, 164, none⟩ (.slice va5 b.cm.votes.length vn5)) :=
      ((Step.refl (K := One (q + 1))).setCell (a := ⟨bx, 165, none⟩) (.inr a5.col) _).setCell (a := ⟨bx, 164, none⟩) (.inr a5.col) _
    have o6 := (X5.out.2.2.2.setCell ⟨bx, 165, none⟩ (.slice va4 b.vals.length vn4)).setCell ⟨bx, 164, none⟩ (.slice va5 b.cm.votes.length vn5)
    have b6 : b.At c5 0 _ (.slice va5 b.cm.votes.length vn5) (.slice va4 b.vals.length vn4) := ⟨hbA.h, hbA.hash, hbA.height, X5.out.2.1.keep s6 (show ¬ 0 = q + 1 by omega) (show ¬ 0 = q + 1 by omega), X5.out.1.keep s6 (show ¬ 0 = q + 1 by omega) (show ¬ 0 = q + 1 by omega), hbA.nvotes, hbA.nvals⟩
    have r6 := (X3.out.2.2.1.keep X5.out.2.2.1 (fun h => h)).keep s6 (show ¬ q = q + 1 by omega)
    have st6 := ((X3.out.2.2.2.1.ofNo (K := fun j => q ≤ j)).trans X5.out.2.2.1.ofNo).trans (s6.mono (K' := fun j => q ≤ j) fun j (e : j = q + 1) => by omega)
    obtain ⟨W6, hW6⟩ : ∃ W, (w5.setCell ⟨bx, 165, none⟩ (.slice va4 b.vals.length vn4)).setCell ⟨bx, 164, none⟩ (.slice va5 b.cm.votes.length vn5) = W := ⟨_, rfl⟩
    rw [hW6] at a6 s6 o6 b6 r6 st6
    have hRl := bloC_len hbA.h hbA.hash (.slice va5 b.cm.votes.length vn5) (.slice va4 b.vals.length vn4)
    have hR1 := bloC_one b6
    obtain ⟨R, hR⟩ : ∃ R, bloC b (.slice va5 b.cm.votes.length vn5) (.slice va4 b.vals.length vn4) = R := ⟨_, rfl⟩
    rw [hR] at a6 hRl hR1
    have hi0 : (Tryz.prog.info? 59).map (·.size) = some R.length := by rw [info_blo, hRl]
    have hi1 : (Tryz.prog.info? 59).map (·.size) = some R.toArray.size := by rw [info_blo]; simp [hRl]
    have ht0 := r6.there (o := 0) (n := R.toArray.size) o6 hq0 (by simp [HZ.out.2.2.1, hRl])
    obtain ⟨_, a7⟩ := r6.st o6 hq0 (ty := 59) (us := R) (by rw [hRl, HZ.out.2.2.1]) hi0 hR1
    have s7 : Step (One q) c5 W6 c5 (W6.setCells (hx + 1) 0 R) := Step.setCells (K := One q) (.inr r6.col) _ _ _ Step.refl
    have b7 := b6.keep s7 (show ¬ 0 = q by omega)
    have o7 := Ok.setCells (b := hx + 1) R 0 _ o6
    have st7 : Step No c w c5 (W6.setCells (hx + 1) 0 R) := (st6.trans (s7.mono (K' := fun j => q ≤ j) fun j (e : j = q) => by omega)).drop fun b _ e => by have := hqc b; omega
    have FL := Lib.hid (And.intro a6.cells (And.intro hi0 (And.intro ht0 (And.intro hi1 (And.intro (all_oneCell_toArray hR1) (And.intro a7.cells (And.intro b7 (And.intro st7 (And.intro o7 (And.intro hR (And.intro bb gg)))))))))))
    clear a5 a6 s6 o6 b6 r6 st6 hRl hR1 hi0 hi1 ht0 a7 s7 b7 o7 st7 hR hBl hbA bb gg SL k1 k2' k3 k4 X5 X3 HB KK
    (try rw [hW6])
    go_wp2_with (first | (refine wpList_load_mid rfl 59 _ rfl bx 0 rfl R _ FL.out.1 Tryz.underlying59 rfl FL.out.2.1 ?_) | (refine wpList_store_mid rfl 59 _ _ rfl (hx + 1) 0 R.toArray rfl rfl FL.out.2.2.1 FL.out.2.2.2.1 FL.out.2.2.2.2.1 ?_))
    obtain ⟨_, f2, _, _, _, f6, f7, f8, f9, f10, f11, f12⟩ := FL.out
    refine bodyPost_ret (results_cell_mid2' rfl _ _ (hx + 1) 0 R _ rfl f6 Tryz.underlying59 rfl f2) rfl ⟨_, _, by rw [f11, f12, f10]; rfl, c5, by rw [f11]; exact f7, f8, f9⟩
end
end Go.Proofs.YtgcobbapaaihiaaGreat
