/- ServerTurns, part 38: lemmas, each with its own conditions. -/
import Derived.Test.YtgcobbapaaihiaaGreatSt01
import Derived.Test.YtgcobbapaaihiaaGreatSt28
import Derived.Test.YtgcobbapaaihiaaGreatSt37
import Derived.ProofKit
import Derived.OpenShut
set_option linter.unusedVariables false
set_option linter.unusedSimpArgs false
namespace Go.Proofs.YtgcobbapaaihiaaGreat
open Go.RowKit

theorem turns_law {w : World} {s : Srv} {vc vo vm : Value} (hs : s.Raw (fun _ => 0) 0 w vc vo vm) (xh xi xn : Int) :
    Calls Tryz.prog 5 #[.agg #[vc, vo, vm, .int .i64 s.delay, .int .i64 s.slow], .int .i64 xh, .int .i64 xi, .int .i64 xn] w fun r w' => r = .returned (.bool true) ∧ Below w.heap.size w w' :=
  (turns_any (Ok.zero w) hs xh xi xn).mono fun e w' h => by
    match e, h with
    | _, ⟨rfl, c', s, _⟩ => exact ⟨rfl, s.below (fun _ _ h => h)⟩
end Go.Proofs.YtgcobbapaaihiaaGreat

set_option linter.unusedVariables false
set_option linter.unusedSimpArgs false
namespace Go.Proofs.YtgcobbapaaihiaaGreat
open Go.RowKit

/-- Whatever reads as data of type t reads by T. -/
def TIn {α : Type} (P : Program) (t : TypeId) (T : Ty α) : Prop :=
  ∀ {H : Type} (enc : TypeId × Value → H) (w : World) (spare : Nat → Bool) (held : Bool) (fuel : Nat) (vs : List Value) (x : DataW H × List MemPlace), DataW.trod enc P w 0 spare held fuel t vs = some x → ∃ y, T.rd (fun _ => 0) 0 w vs y

section
variable {P : Program}

theorem TIn.int {t : TypeId} {k : IntKind} (ht : P.underlying t = some (.int k)) : TIn P t (TInt k) := by
  intro H enc w spare held fuel vs x h
  obtain ⟨n, rfl, _, hw⟩ := DataW.trod_int ht h
  refine ⟨n, rfl, ?_⟩
  simpa [Lit.wf, IntKind.has] using hw

theorem TIn.byte {t : TypeId} (ht : P.underlying t = some (.int .u8)) : TIn P t TByte := by
  intro H enc w spare held fuel vs x h
  obtain ⟨n, rfl, _, hw⟩ := DataW.trod_int ht h
  have hb : 0 ≤ n ∧ n ≤ 255 := by
    have : IntKind.u8.min ≤ n ∧ n ≤ IntKind.u8.max := by simpa [Lit.wf] using hw
    exact ⟨this.1, this.2⟩
  refine ⟨UInt8.ofNat n.toNat, ?_⟩
  show [Value.int .u8 n] = [Value.int .u8 ((UInt8.ofNat n.toNat).toNat : Int)]
  congr 2
  simp only [UInt8.toNat_ofNat']
  omega

/-- A slice that came in, or lies in memory. -/
theorem slice_in {α : Type} {t e : TypeId} {T : Ty α} (ht : P.underlying t = some (.slice e)) (he : TIn P e T) (hc : P.cellsOf e = T.n) (hn : 0 < T.n) {H : Type} {enc : TypeId × Value → H} {w : World} {spare : Nat → Bool} {held : Bool} {fuel : Nat} {vs : List Value} {x : DataW H × List MemPlace}
    (h : DataW.trod enc P w 0 spare held fuel t vs = some x) : ∃ v l, vs = [v] ∧ Sl T (fun _ => 0) 0 0 w v l := by
  rcases DataW.trod_slice ht h with ⟨rfl, _⟩ | ⟨a, len, cap, elems, rest, n, _, rfl, _, _, hlc, hcm, hel, hall, _⟩
  · exact ⟨_, [], rfl, Sl.nil _ _ _ _ _⟩
  · by_cases hl0 : len = 0
    · subst hl0
      exact ⟨_, [], rfl, .inl ⟨rfl, some a, cap, rfl, hcm, fun h => by cases h⟩⟩
    · have key : ∀ i, i < len → ∃ cs y, (∀ j, j < T.n → w.cell? (a.add (i * T.n + j)) = cs[j]?) ∧ cs.length = T.n ∧ T.rd (fun _ => 0) 0 w cs y := by
        intro i hi
        have hi' := hall i hi
        rw [hc] at hi'
        have hsome : ∃ z, elems[i]? = some z := ⟨elems[i]'(by omega), by simp [hel, hi]⟩
        obtain ⟨z, hz⟩ := hsome
        rw [hz] at hi'
        obtain ⟨cs, hcs, htr⟩ := Option.bind_eq_some_iff.1 hi'
        obtain ⟨_, hlen, hcell⟩ := World.cells?_some hcs
        obtain ⟨y, hy⟩ := he enc w spare held n cs z htr
        refine ⟨cs, y, fun j hj => ?_, hlen, hy⟩
        have hadd : (a.add (i * T.n)).add j = a.add (i * T.n + j) := by
          unfold Addr.add
          by_cases h1 : i * T.n = 0 <;> by_cases h2 : j = 0 <;> simp [h1, h2, Nat.add_assoc]
        rw [← hadd]; exact hcell j hj
      have hspot : a.spot = none ∧ a.block < w.heap.size := by
        obtain ⟨cs, y, hc1, hc2, _⟩ := key 0 (by omega)
        have h0 := hc1 0 hn
        have h1 : ∃ u, cs[0]? = some u := ⟨cs[0]'(by omega), by simp [hc2, hn]⟩
        obtain ⟨u, hu⟩ := h1
        rw [hu] at h0
        simp [Addr.add] at h0
        refine ⟨?_, World.block_lt_of_cell? w a h0⟩
        unfold World.cell? at h0
        split at h0
        · split at h0
          · cases h0
          · rename_i hs; simpa using hs
        · cases h0
      obtain ⟨b, off, sp⟩ := a
      obtain ⟨hsp, hbl⟩ := hspot
      dsimp only at hsp hbl
      subst hsp
      have key2 : ∀ i : Nat, ∃ y : Option α, i < len → ∃ y', y = some y' ∧ ∃ cs, T.rd (fun _ => 0) 0 w cs y' ∧ CellsAt w b (off + i * T.n) cs := by
        intro i
        by_cases hi : i < len
        · obtain ⟨cs, y, hc1, hc2, hr⟩ := key i hi
          refine ⟨some y, fun _ => ⟨y, rfl, cs, hr, fun j u hu => ?_⟩⟩
          have hj : j < cs.length := (List.getElem?_eq_some_iff.1 hu).1
          have := hc1 j (by omega)
          rw [hu] at this
          have hadd : (⟨b, off, none⟩ : Addr).add (i * T.n + j) = ⟨b, off + i * T.n + j, none⟩ := by unfold Addr.add; split <;> simp_all [Nat.add_assoc]
          rw [hadd] at this; exact this
        · exact ⟨none, fun h => absurd h hi⟩
      obtain ⟨f, hf⟩ := Classical.axiomOfChoice key2
      refine ⟨_, (List.range len).filterMap f, rfl, .inr ⟨b, off, cap, ?_, ?_, hcm, rfl, hbl, ?_⟩⟩
      all_goals
        have hmap : (List.range len).filterMap f = (List.range len).pmap (fun i (hi : i < len) => Classical.choose (hf i hi)) (fun i hi => List.mem_range.1 hi) := by
          have gen : ∀ (l : List Nat) (hl : ∀ i ∈ l, i < len), l.filterMap f = l.pmap (fun i (hi : i < len) => Classical.choose (hf i hi)) hl := by
            intro l
            induction l with
            | nil => intro _; rfl
            | cons i l ih =>
              intro hl
              have hi := hl i (by simp)
              have h1 := (Classical.choose_spec (hf i hi)).1
              rw [List.filterMap_cons_some h1, List.pmap_cons, ih (fun j hj => hl j (by simp [hj]))]
          exact gen _ _
        have hlen2 : ((List.range len).filterMap f).length = len := by rw [hmap]; simp
      · rw [hlen2]
      · rw [hlen2]; exact hlc
      · intro i y hy
        have hi : i < len := by have := (List.getElem?_eq_some_iff.1 hy).1; omega
        rw [hmap] at hy
        have hlp : i < ((List.range len).pmap (fun i (hi : i < len) => Classical.choose (hf i hi)) (fun i hi => List.mem_range.1 hi)).length := by simpa using hi
        rw [List.getElem?_eq_getElem hlp, List.getElem_pmap] at hy
        have hri : (List.range len)[i]'(by simpa using hi) = i := List.getElem_range _
        have hyy := Option.some.inj hy
        subst hyy
        have gen3 : ∀ (i' : Nat) (hi' : i' < len), i' = i → ∃ vs, T.rd (fun _ => 0) 0 w vs (Classical.choose (hf i' hi')) ∧ CellsAt w b (off + i * T.n) vs := by
          rintro i' hi' rfl
          exact (Classical.choose_spec (hf i' hi')).2
        exact gen3 _ (by rw [hri]; exact hi) hri
end
end Go.Proofs.YtgcobbapaaihiaaGreat

set_option linter.unusedVariables false
set_option linter.unusedSimpArgs false
namespace Go.Proofs.YtgcobbapaaihiaaGreat
open Go.RowKit Go.ChangeShapes Go.WideShapes Go.ChangeAt

theorem has_wf' {a : Int} (h : (Lit.int .i64 a).wf = true) : IntKind.i64.has a := by simpa [Lit.wf, IntKind.has] using h

section
variable {P : Program} {H : Type} {enc : TypeId × Value → H} {w : World} {spare : Nat → Bool} {held : Bool}

theorem trod_bytes {fuel : Nat} {n : Nat} {t e : TypeId} {vs : List Value} {x : DataW H × List MemPlace} (ht : P.underlying t = some (.array n e)) (he : P.underlying e = some (.int .u8)) (hce : P.cellsOf e = 1) (hct : P.cellsOf t = n)
    (h : DataW.trod enc P w 0 spare held fuel t vs = some x) : ∃ l : List UInt8, l.length = n ∧ vs = bC l := by
  obtain ⟨xs, m, _, _, hlen, hxs, hf⟩ := DataW.trod_array ht h
  rw [hct] at hlen
  have key : ∀ i, i < n → ∃ y : UInt8, vs[i]? = some (.int .u8 y.toNat) := by
    intro i hi
    have g := hf i hi
    rw [hce, Nat.mul_one] at g
    have hs : ∃ z, xs[i]? = some z := ⟨xs[i]'(by rw [hxs]; exact hi), by rw [List.getElem?_eq_getElem]⟩
    obtain ⟨z, ez⟩ := hs
    rw [ez] at g
    obtain ⟨y, hy⟩ := TIn.byte he enc w spare held _ _ z g
    have hy' : (vs.drop i).take 1 = [.int .u8 y.toNat] := hy
    refine ⟨y, ?_⟩
    have := congrArg (fun l => l[0]?) hy'
    simpa [List.getElem?_take, List.getElem?_drop] using this
  refine ⟨vs.map (fun v => match v with | .int _ n => UInt8.ofNat n.toNat | _ => 0), by rw [List.length_map, hlen], ?_⟩
  refine List.ext_getElem? fun i => ?_
  by_cases hi : i < n
  · obtain ⟨y, hy⟩ := key i hi
    rw [hy]
    symm
    refine bC_get ?_
    rw [List.getElem?_map, hy]
    simp
  · rw [List.getElem?_eq_none (by omega), List.getElem?_eq_none (by rw [bC_len, List.length_map]; omega)]

theorem seg (vs : List Value) (o n : Nat) : vs.drop o = (vs.drop o).take n ++ vs.drop (o + n) := by rw [← List.drop_drop, List.take_append_drop]
end

theorem cK : Tryz.prog.cellsOf 91 = 4 := by kernel_rfl
theorem cH : Tryz.prog.cellsOf 51 = 32 := by kernel_rfl
theorem cI : Tryz.prog.cellsOf 3 = 1 := by kernel_rfl
theorem cU : Tryz.prog.cellsOf 104 = 1 := by kernel_rfl
theorem cU8 : Tryz.prog.cellsOf 5 = 1 := by kernel_rfl
theorem cS : Tryz.prog.cellsOf 9 = 1 := by kernel_rfl
theorem cHd : Tryz.prog.cellsOf 53 = 131 := by kernel_rfl
theorem cCm : Tryz.prog.cellsOf 56 = 34 := by kernel_rfl
theorem cVs : Tryz.prog.cellsOf 54 = 1 := by kernel_rfl
theorem cVl : Tryz.prog.cellsOf 57 = 1 := by kernel_rfl
theorem cBs : Tryz.prog.cellsOf 22 = 1 := by kernel_rfl
theorem cIs : Tryz.prog.cellsOf 23 = 1 := by kernel_rfl

section
variable {P : Program} {H : Type} {enc : TypeId × Value → H} {w : World} {spare : Nat → Bool} {held : Bool}

theorem trod_fields {fs : Array Field} {t : TypeId} {fuel : Nat} {vs : List Value} {x : DataW H × List MemPlace} (ht : P.underlying t = some (.struct fs)) (h : DataW.trod enc P w 0 spare held fuel t vs = some x) :
    vs.length = P.cellsOf t ∧ ∃ m, ∀ (i : Nat) (f : Field), fs[i]? = some f → ∃ z, DataW.trod enc P w 0 spare held m f.type ((vs.drop f.offset).take (P.cellsOf f.type)) = some z := by
  obtain ⟨xs, n, _, _, hlen, hxs, hf⟩ := DataW.trod_struct ht h
  refine ⟨hlen, n, fun i f hi => ?_⟩
  have hlt := (Array.getElem?_eq_some_iff.1 hi).1
  exact ⟨xs[i]'(by rw [hxs]; exact hlt), by rw [hf i f hi, List.getElem?_eq_getElem]⟩

theorem trod_i64 {t : TypeId} {fuel : Nat} {vs : List Value} {x : DataW H × List MemPlace} (ht : P.underlying t = some (.int .i64)) (h : DataW.trod enc P w 0 spare held fuel t vs = some x) : ∃ n, vs = [.int .i64 n] ∧ IntKind.i64.has n := by
  obtain ⟨n, e, _, hw⟩ := DataW.trod_int ht h
  exact ⟨n, e, has_wf' hw⟩
end

theorem TIn.val : TIn Tryz.prog 93 TVal := by
  intro H enc w spare held fuel vs x h
  obtain ⟨hlen, m, hf⟩ := trod_fields Tryz.underlying93 h
  rw [show Tryz.prog.cellsOf 93 = 5 by kernel_rfl] at hlen
  obtain ⟨_, g0⟩ := hf 0 (Field.mk _ 91 0 _ _ _ _) rfl
  obtain ⟨_, g1⟩ := hf 1 (Field.mk _ 3 4 _ _ _ _) rfl
  dsimp only at g0 g1
  rw [cK] at g0
  rw [cI] at g1
  obtain ⟨k, hk, e0⟩ := trod_bytes Tryz.underlying91 Tryz.underlying5 cU8 cK g0
  obtain ⟨n, e1, hn⟩ := trod_i64 Tryz.underlying3 g1
  refine ⟨⟨k, n⟩, ?_, hk, hn⟩
  have s0 := seg vs 0 4
  have s1 := seg vs 4 1
  rw [e0, List.drop_zero, s1, e1, List.drop_eq_nil_of_le (by omega)] at s0
  exact s0

theorem TIn.vot : TIn Tryz.prog 106 TVot := by
  intro H enc w spare held fuel vs x h
  obtain ⟨hlen, m, hf⟩ := trod_fields Tryz.underlying106 h
  rw [show Tryz.prog.cellsOf 106 = 2 by kernel_rfl] at hlen
  obtain ⟨_, g0⟩ := hf 0 (Field.mk _ 3 0 _ _ _ _) rfl
  obtain ⟨_, g1⟩ := hf 1 (Field.mk _ 104 1 _ _ _ _) rfl
  dsimp only at g0 g1
  rw [cI] at g0
  rw [cU] at g1
  obtain ⟨a, e0, ha⟩ := trod_i64 Tryz.underlying3 g0
  obtain ⟨n, e1, _, hw⟩ := DataW.trod_int Tryz.underlying104 g1
  have hn : 0 ≤ n ∧ n ≤ 18446744073709551615 := by
    have : IntKind.u64.min ≤ n ∧ n ≤ IntKind.u64.max := by simpa [Lit.wf] using hw
    exact ⟨this.1, this.2⟩
  refine ⟨⟨a, n.toNat⟩, ?_, ha, by show n.toNat < _; omega⟩
  have s0 := seg vs 0 1
  have s1 := seg vs 1 1
  rw [e0, List.drop_zero, s1, e1, List.drop_eq_nil_of_le (by omega)] at s0
  rw [s0]
  show [Value.int .i64 a, Value.int .u64 n] = [Value.int .i64 a, Value.int .u64 (n.toNat : Int)]
  rw [Int.toNat_of_nonneg hn.1]

section
variable {H : Type} {enc : TypeId × Value → H} {w : World} {spare : Nat → Bool} {held : Bool}

theorem trod_hdr {fuel : Nat} {vs : List Value} {x : DataW H × List MemPlace} (h : DataW.trod enc Tryz.prog w 0 spare held fuel 53 vs = some x) :
    ∃ b : Hdr, vs = hdrC b ∧ IntKind.i64.has b.height ∧ IntKind.i64.has b.time ∧ b.prev.length = 32 ∧ b.vals.length = 32 ∧ b.next.length = 32 ∧ b.app.length = 32 := by
  obtain ⟨hlen, m, hf⟩ := trod_fields Tryz.underlying53 h
  rw [cHd] at hlen
  obtain ⟨_, g0⟩ := hf 0 (Field.mk _ 9 0 _ _ _ _) rfl
  obtain ⟨_, g1⟩ := hf 1 (Field.mk _ 3 1 _ _ _ _) rfl
  obtain ⟨_, g2⟩ := hf 2 (Field.mk _ 3 2 _ _ _ _) rfl
  obtain ⟨_, g3⟩ := hf 3 (Field.mk _ 51 3 _ _ _ _) rfl
  obtain ⟨_, g4⟩ := hf 4 (Field.mk _ 51 35 _ _ _ _) rfl
  obtain ⟨_, g5⟩ := hf 5 (Field.mk _ 51 67 _ _ _ _) rfl
  obtain ⟨_, g6⟩ := hf 6 (Field.mk _ 51 99 _ _ _ _) rfl
  dsimp only at g0 g1 g2 g3 g4 g5 g6
  rw [cS] at g0
  rw [cI] at g1 g2
  rw [cH] at g3 g4 g5 g6
  obtain ⟨st, e0, _, _⟩ := DataW.trod_string Tryz.underlying9 g0
  obtain ⟨a1, e1, h1⟩ := trod_i64 Tryz.underlying3 g1
  obtain ⟨a2, e2, h2⟩ := trod_i64 Tryz.underlying3 g2
  obtain ⟨l3, h3, e3⟩ := trod_bytes Tryz.underlying51 Tryz.underlying5 cU8 cH g3
  obtain ⟨l4, h4, e4⟩ := trod_bytes Tryz.underlying51 Tryz.underlying5 cU8 cH g4
  obtain ⟨l5, h5, e5⟩ := trod_bytes Tryz.underlying51 Tryz.underlying5 cU8 cH g5
  obtain ⟨l6, h6, e6⟩ := trod_bytes Tryz.underlying51 Tryz.underlying5 cU8 cH g6
  refine ⟨⟨st.data.toList, a1, a2, l3, l4, l5, l6⟩, ?_, h1, h2, h3, h4, h5, h6⟩
  have s0 := seg vs 0 1
  rw [e0, List.drop_zero, seg vs (0 + 1) 1, e1, seg vs (0 + 1 + 1) 1, e2, seg vs (0 + 1 + 1 + 1) 32, e3, seg vs (0 + 1 + 1 + 1 + 32) 32, e4, seg vs (0 + 1 + 1 + 1 + 32 + 32) 32, e5, seg vs (0 + 1 + 1 + 1 + 32 + 32 + 32) 32, e6, @List.drop_eq_nil_of_le _ vs _ (by omega), List.append_nil] at s0
  exact s0

theorem trod_cmt {fuel : Nat} {vs : List Value} {x : DataW H × List MemPlace} (h : DataW.trod enc Tryz.prog w 0 spare held fuel 56 vs = some x) :
    ∃ (b : Cmt) (v : Value), vs = cmC b v ∧ IntKind.i64.has b.height ∧ b.hash.length = 32 ∧ Sl TVot (fun _ => 0) 0 0 w v b.votes := by
  obtain ⟨hlen, m, hf⟩ := trod_fields Tryz.underlying56 h
  rw [cCm] at hlen
  obtain ⟨_, g0⟩ := hf 0 (Field.mk _ 3 0 _ _ _ _) rfl
  obtain ⟨_, g1⟩ := hf 1 (Field.mk _ 51 1 _ _ _ _) rfl
  obtain ⟨_, g2⟩ := hf 2 (Field.mk _ 54 33 _ _ _ _) rfl
  dsimp only at g0 g1 g2
  rw [cI] at g0
  rw [cH] at g1
  rw [cVs] at g2
  obtain ⟨a0, e0, h0⟩ := trod_i64 Tryz.underlying3 g0
  obtain ⟨l1, h1, e1⟩ := trod_bytes Tryz.underlying51 Tryz.underlying5 cU8 cH g1
  obtain ⟨v, l, e2, hl⟩ := slice_in Tryz.underlying54 TIn.vot (by kernel_rfl) (by decide) g2
  refine ⟨⟨a0, l1, l⟩, v, ?_, h0, h1, hl⟩
  have s0 := seg vs 0 1
  rw [e0, List.drop_zero, seg vs (0 + 1) 32, e1, seg vs (0 + 1 + 32) 1, e2, @List.drop_eq_nil_of_le _ vs _ (by omega)] at s0
  exact s0
end

theorem TIn.blo : TIn Tryz.prog 59 TBlR := by
  intro H enc w spare held fuel vs x h
  obtain ⟨hlen, m, hf⟩ := trod_fields Tryz.underlying59 h
  rw [show Tryz.prog.cellsOf 59 = 166 by kernel_rfl] at hlen
  obtain ⟨_, g0⟩ := hf 0 (Field.mk _ 53 0 _ _ _ _) rfl
  obtain ⟨_, g1⟩ := hf 1 (Field.mk _ 56 131 _ _ _ _) rfl
  obtain ⟨_, g2⟩ := hf 2 (Field.mk _ 57 165 _ _ _ _) rfl
  dsimp only at g0 g1 g2
  rw [cHd] at g0
  rw [cCm] at g1
  rw [cVl] at g2
  obtain ⟨hd, e0, a1, a2, a3, a4, a5, a6⟩ := trod_hdr g0
  obtain ⟨cm, vc, e1, b1, b2, b3⟩ := trod_cmt g1
  obtain ⟨vv, l, e2, hl⟩ := slice_in Tryz.underlying57 TIn.val (by kernel_rfl) (by decide) g2
  refine ⟨⟨hd, cm, l⟩, vc, vv, ?_, a1, a2, a3, a4, a5, a6, b2, b1, b3, hl⟩
  have s0 := seg vs 0 131
  rw [e0, List.drop_zero, seg vs (0 + 131) 34, e1, seg vs (0 + 131 + 34) 1, e2, @List.drop_eq_nil_of_le _ vs _ (by omega)] at s0
  exact s0

/-- A server that came in. -/
theorem server_in {H : Type} {enc : TypeId × Value → H} {w : World} {spare : Nat → Bool} {held : Bool} {fuel : Nat} {vs : List Value} {x : DataW H × List MemPlace} (h : DataW.trod enc Tryz.prog w 0 spare held fuel 25 vs = some x) :
    ∃ (s : Srv) (vc vo vm : Value), vs = [vc, vo, vm, .int .i64 s.delay, .int .i64 s.slow] ∧ s.Raw (fun _ => 0) 0 w vc vo vm := by
  obtain ⟨hlen, m, hf⟩ := trod_fields Tryz.underlying25 h
  rw [show Tryz.prog.cellsOf 25 = 5 by kernel_rfl] at hlen
  obtain ⟨_, g0⟩ := hf 0 (Field.mk _ 22 0 _ _ _ _) rfl
  obtain ⟨_, g1⟩ := hf 1 (Field.mk _ 22 1 _ _ _ _) rfl
  obtain ⟨_, g2⟩ := hf 2 (Field.mk _ 23 2 _ _ _ _) rfl
  obtain ⟨_, g3⟩ := hf 3 (Field.mk _ 3 3 _ _ _ _) rfl
  obtain ⟨_, g4⟩ := hf 4 (Field.mk _ 3 4 _ _ _ _) rfl
  dsimp only at g0 g1 g2 g3 g4
  rw [cBs] at g0 g1
  rw [cIs] at g2
  rw [cI] at g3 g4
  obtain ⟨v0, l0, e0, h0⟩ := slice_in Tryz.underlying22 TIn.blo (by kernel_rfl) (by decide) g0
  obtain ⟨v1, l1, e1, h1⟩ := slice_in Tryz.underlying22 TIn.blo (by kernel_rfl) (by decide) g1
  obtain ⟨v2, l2, e2, h2⟩ := slice_in Tryz.underlying23 (TIn.int Tryz.underlying3) (by kernel_rfl) (by decide) g2
  obtain ⟨a3, e3, h3⟩ := trod_i64 Tryz.underlying3 g3
  obtain ⟨a4, e4, h4⟩ := trod_i64 Tryz.underlying3 g4
  refine ⟨⟨l0, l1, l2, a3, a4⟩, v0, v1, v2, ?_, h0, h1, h2, h3, h4⟩
  have s0 := seg vs 0 1
  rw [e0, List.drop_zero, seg vs (0 + 1) 1, e1, seg vs (0 + 1 + 1) 1, e2, seg vs (0 + 1 + 1 + 1) 1, e3, seg vs (0 + 1 + 1 + 1 + 1) 1, e4, @List.drop_eq_nil_of_le _ vs _ (by omega)] at s0
  exact s0
end Go.Proofs.YtgcobbapaaihiaaGreat
