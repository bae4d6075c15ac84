/- ServerTurns, part 25: lemmas, each with its own conditions. -/
import Derived.Test.YtgcobbapaaihiaaGreatSt02
import Derived.Test.YtgcobbapaaihiaaGreatSt23
import Derived.Test.YtgcobbapaaihiaaGreatSt24
import Derived.DeepKeys5
import Derived.Carry
import Derived.RangeFuncRecord
import Derived.LoopN
import Derived.Great.BuildSlice
set_option linter.unusedVariables false
set_option linter.unusedSimpArgs false
namespace Go.Proofs.YtgcobbapaaihiaaGreat
open Go.RowKit Go.WideMaps

/-- A map in memory, of colour k: what it tells of each key; at most n entries. -/
structure IsMap {κ ν : Type} (P : Program) (kt : TypeId) (kv : κ → Value) (vv : ν → Value) (c : Col) (k : Nat) (w : World) (b : Nat) (m : κ → Option ν) (n : Nat) : Prop where
  col : c b = k
  obj : ∃ es clock, w.heap[b]? = some (.map es clock) ∧ es.size ≤ n ∧ (es.toList.map (·.key)).Nodup ∧ (∀ x ∈ es.toList, ∃ l, keyOf P kt x.key = some l) ∧
    (∀ x ∈ es.toList, ∃ y z, x.key = kv y ∧ x.val = vv z ∧ m y = some z) ∧ (∀ y z, m y = some z → ∃ x ∈ es.toList, x.key = kv y ∧ x.val = vv z)

/-- What a look-up answers. -/
def getV {ν : Type} (vv : ν → Value) (zv : Value) : Option ν → Value
  | some z => vv z
  | none => zv

section
variable {κ ν : Type} {P : Program} {t kt e : TypeId} {kv : κ → Value} {vv : ν → Value} {c : Col} {k : Nat} {w : World} {b n : Nat} {m : κ → Option ν}

theorem IsMap.keep {K : Nat → Prop} {c' : Col} {w' : World} (h : IsMap P kt kv vv c k w b m n) (hs : Step K c w c' w') (hk : ¬ K k) : IsMap P kt kv vv c' k w' b m n := by
  obtain ⟨es, clock, h1, h2⟩ := h.obj
  have hb : b < w.heap.size := (Array.getElem?_eq_some_iff.1 h1).1
  have hkb : ¬ K (c b) := by rw [h.col]; exact hk
  exact ⟨(hs.col b hb hkb).trans h.col, es, clock, (hs.block b hb hkb).trans h1, h2⟩
theorem IsMap.kn {c' : Col} {w' : World} (h : IsMap P kt kv vv c k w b m n) (hs : Step No c w c' w') : IsMap P kt kv vv c' k w' b m n := h.keep hs (fun h => h)

theorem IsMap.lookup (h : IsMap P kt kv vv c k w b m n) (L : KeyLaw P kt) (inj : ∀ y y', kv y = kv y' → y = y') (ht : P.underlying t = some (.map kt e)) {zv : Value} (hz : (zeroValue e).run P w = .ok zv w) (y : κ) (hy : ∃ l, keyOf P kt (kv y) = some l) :
    (Instr.lookup t (.map (some b)) (kv y) true).run P w = .ok (.tuple #[getV vv zv (m y), .bool (m y).isSome]) w := by
  obtain ⟨es, clock, h1, h2, hd, h3, h4, h5⟩ := h.obj
  obtain ⟨l, hl⟩ := hy
  rcases L.find w hl es.toList h3 with ⟨f1, f2⟩ | ⟨j, x, f1, f2, f3⟩
  · have hm : m y = none := by
      cases hm : m y with
      | none => rfl
      | some z => obtain ⟨x, hx, hk, _⟩ := h5 y z hm; exact absurd hk (f2 x hx)
    simp [Instr.lookup, run_underlying ht, MapKept.run_getObj_map h1, L.check w _ hl, f1, hz, Result.andThen, hm, getV]
  · obtain ⟨y', z, g1, g2, g3⟩ := h4 x (List.mem_of_getElem? f2)
    have hyy : y' = y := inj _ _ (g1.symm.trans f3)
    subst hyy
    simp [Instr.lookup, run_underlying ht, MapKept.run_getObj_map h1, L.check w _ hl, f1, Result.andThen, g3, g2, getV]

theorem key_at {es : Array MapEntry} (hd : (es.toList.map (·.key)).Nodup) {i j : Nat} {x x' : MapEntry} (hi : es[i]? = some x) (hj : es[j]? = some x') (h : x.key = x'.key) : i = j := by
  have hi' : (es.toList.map (·.key))[i]? = some x.key := by simp [hi]
  have hj' : (es.toList.map (·.key))[j]? = some x'.key := by simp [hj]
  obtain ⟨li, ei⟩ := List.getElem?_eq_some_iff.1 hi'
  obtain ⟨lj, ej⟩ := List.getElem?_eq_some_iff.1 hj'
  have hp := List.pairwise_iff_getElem.1 hd
  rcases Nat.lt_trichotomy i j with hlt | he | hlt
  · exact absurd (by rw [ei, ej, h]) (hp i j li lj hlt)
  · exact he
  · exact absurd (by rw [ei, ej, h]) (hp j i lj li hlt)

theorem step_setObj (hk : c b = k) (o : Obj) : Step (One k) c w c { w with heap := w.heap.setIfInBounds b o } :=
  ⟨rfl, rfl, rfl, by simp, fun j hj hne => by
    have : j ≠ b := fun e => hne (by rw [e]; exact hk)
    simp [Array.getElem?_setIfInBounds, this.symm], fun _ _ _ => rfl⟩

theorem ok_setMap (hok : Ok c w) (b : Nat) (es : Array MapEntry) (clock : Nat) : Ok c { w with heap := w.heap.setIfInBounds b (.map es clock) } := by
  refine ⟨fun j hj => hok.fresh j (by simpa using hj), fun j o hc => ?_⟩
  by_cases e : j = b
  · subst e
    have hlt := hok.lt hc
    simp [World.frozen?, Array.getElem?_setIfInBounds, hlt]
  · rw [World.frozen?_of_block (w := w) (a := ⟨j, o, none⟩) (by simp only [Array.getElem?_setIfInBounds]; rw [if_neg (fun h => e (Eq.symm h))])]
    exact hok.soft j o hc

theorem IsMap.update [DecidableEq κ] (h : IsMap P kt kv vv c k w b m n) (hok : Ok c w) (L : KeyLaw P kt) (inj : ∀ y y', kv y = kv y' → y = y') (ht : P.underlying t = some (.map kt e)) (hn : n < maxLen) (y : κ) (z : ν) (hy : ∃ l, keyOf P kt (kv y) = some l) :
    ∃ w', (Instr.mapUpdate t (.map (some b)) (kv y) (vv z)).run P w = .ok () w' ∧ IsMap P kt kv vv c k w' b (fun y' => if y' = y then some z else m y') (n + 1) ∧ Step (One k) c w c w' ∧ Ok c w' := by
  obtain ⟨es, clock, h1, h2, hd, h3, h4, h5⟩ := h.obj
  have hb : b < w.heap.size := (Array.getElem?_eq_some_iff.1 h1).1
  obtain ⟨l, hl⟩ := hy
  rcases L.find w hl es.toList h3 with ⟨f1, f2⟩ | ⟨j, x, f1, f2, f3⟩
  · refine ⟨{ w with heap := w.heap.setIfInBounds b (.map (es.push ⟨kv y, vv z, clock⟩) (clock + 1)) }, ?_, ⟨h.col, es.push ⟨kv y, vv z, clock⟩, clock + 1, by simp [Array.getElem?_setIfInBounds, hb], by simp; omega, ?_, ?_, ?_, ?_⟩, step_setObj h.col _, ok_setMap hok _ _ _⟩
    · simp [Instr.mapUpdate, run_underlying ht, MapKept.run_getObj_map h1, L.check w false hl, f1, MapKept.run_setObj_map _ h1, Result.andThen]
    · rw [Array.toList_push, List.map_append, List.nodup_append]
      refine ⟨hd, by simp, fun a ha b hb => ?_⟩
      simp at hb; subst hb
      obtain ⟨x, hx, rfl⟩ := List.mem_map.1 ha
      exact f2 x hx
    · intro x hx
      simp only [Array.toList_push, List.mem_append, List.mem_singleton] at hx
      rcases hx with hx | rfl
      · exact h3 x hx
      · exact ⟨l, hl⟩
    · intro x hx
      simp only [Array.toList_push, List.mem_append, List.mem_singleton] at hx
      rcases hx with hx | rfl
      · obtain ⟨y', z', g1, g2, g3⟩ := h4 x hx
        refine ⟨y', z', g1, g2, ?_⟩
        rw [if_neg (fun e => f2 x hx (by rw [g1, e])), g3]
      · exact ⟨y, z, rfl, rfl, by simp⟩
    · intro y' z' hm
      by_cases e : y' = y
      · subst e
        simp at hm; subst hm
        exact ⟨⟨kv y', vv z, clock⟩, by simp, rfl, rfl⟩
      · simp only [e, if_false] at hm
        obtain ⟨x, hx, g1, g2⟩ := h5 y' z' hm
        exact ⟨x, by simp [hx], g1, g2⟩
  · have hj : es[j]? = some x := by simpa using f2
    refine ⟨{ w with heap := w.heap.setIfInBounds b (.map (es.modify j fun e' => { e' with key := kv y, val := vv z }) clock) }, ?_, ⟨h.col, es.modify j (fun e' => { e' with key := kv y, val := vv z }), clock, by simp [Array.getElem?_setIfInBounds, hb], by simp; omega, ?_, ?_, ?_, ?_⟩, step_setObj h.col _, ok_setMap hok _ _ _⟩
    · simp [Instr.mapUpdate, run_underlying ht, MapKept.run_getObj_map h1, L.check w false hl, f1, hj, f3, L.stays w hl, MapKept.run_setObj_map _ h1, Result.andThen]
    · have hkeys : (es.modify j (fun e' => { e' with key := kv y, val := vv z })).toList.map (·.key) = es.toList.map (·.key) := by
        refine List.ext_getElem? fun i => ?_
        simp only [List.getElem?_map, Array.getElem?_toList, Array.getElem?_modify]
        split
        · rename_i hij
          subst hij
          rw [hj]; simp [f3]
        · rfl
      rw [hkeys]; exact hd
    · intro x' hx
      rcases MapFrom.mem_modify hx with hx | ⟨e', _, rfl⟩
      · exact h3 x' hx
      · exact ⟨l, hl⟩
    · intro x' hx
      rw [Array.mem_toList_iff, Array.mem_iff_getElem?] at hx
      obtain ⟨i, hi⟩ := hx
      rw [Array.getElem?_modify] at hi
      by_cases hij : j = i
      · subst hij
        rw [if_pos rfl, hj] at hi
        simp at hi; subst hi
        exact ⟨y, z, rfl, rfl, by simp⟩
      · rw [if_neg hij] at hi
        have hx' : x' ∈ es.toList := by rw [Array.mem_toList_iff, Array.mem_iff_getElem?]; exact ⟨i, hi⟩
        obtain ⟨y', z', g1, g2, g3⟩ := h4 x' hx'
        refine ⟨y', z', g1, g2, ?_⟩
        rw [if_neg (fun e => hij (key_at hd hj hi (by rw [f3, g1, e]))), g3]
    · intro y' z' hm
      by_cases e : y' = y
      · subst e
        simp at hm; subst hm
        refine ⟨⟨kv y', vv z, x.born⟩, ?_, rfl, rfl⟩
        rw [Array.mem_toList_iff, Array.mem_iff_getElem?]
        exact ⟨j, by rw [Array.getElem?_modify, if_pos rfl, hj]; rfl⟩
      · simp only [e, if_false] at hm
        obtain ⟨x', hx, g1, g2⟩ := h5 y' z' hm
        refine ⟨x', ?_, g1, g2⟩
        rw [Array.mem_toList_iff, Array.mem_iff_getElem?] at hx ⊢
        obtain ⟨i, hi⟩ := hx
        refine ⟨i, ?_⟩
        rw [Array.getElem?_modify, if_neg, hi]
        intro hij
        subst hij
        rw [hj] at hi; cases hi
        exact e (inj _ _ (g1.symm.trans f3))

/-- A new map. -/
theorem IsMap.new (hok : Ok c w) (k : Nat) : IsMap P kt kv vv (c.put w.heap.size k) k (w.alloc (.map #[] 0)) w.heap.size (fun _ => none) 0 ∧ Ok (c.put w.heap.size k) (w.alloc (.map #[] 0)) ∧ Step No c w (c.put w.heap.size k) (w.alloc (.map #[] 0)) := by
  have hnew : (w.alloc (.map #[] 0)).heap[w.heap.size]? = some (.map #[] 0) := World.alloc_heap_new w _
  exact ⟨⟨by simp, #[], 0, hnew, Nat.le_refl _, by simp, by simp, by simp, by simp⟩, (hok.alloc _).put (by simp) (fun o => by unfold World.frozen?; rw [hnew]), (Step.refl.alloc _).put (.inl (Nat.le_refl _))⟩
end
end Go.Proofs.YtgcobbapaaihiaaGreat

set_option linter.unusedVariables false
set_option linter.unusedSimpArgs false
namespace Go.Proofs.YtgcobbapaaihiaaGreat
open Go.RowKit Go.WideMaps

def seatV (p : Int × Int) : Value := .agg #[.int .i64 p.1, .int .i64 p.2]
def nixV (_ : Unit) : Value := .agg #[]
theorem seatV_inj : ∀ p q : Int × Int, seatV p = seatV q → p = q := by
  rintro ⟨a, b⟩ ⟨c, d⟩ h
  simp [seatV] at h
  exact Prod.ext h.1 h.2
theorem seatLaw : KeyLaw Tryz.prog 148 := deep_law_gate (by kernel_rfl) (of_decide_eq_true (by kernel_rfl)) (of_decide_eq_true (by kernel_rfl)) (by kernel_rfl) (by kernel_rfl)
theorem seat_key {p : Int × Int} (h1 : IntKind.i64.has p.1) (h2 : IntKind.i64.has p.2) : ∃ l, keyOf Tryz.prog 148 (seatV p) = some l := by
  have w1 : (Lit.int .i64 p.1).wf = true := by simpa [Lit.wf, IntKind.has] using h1
  have w2 : (Lit.int .i64 p.2).wf = true := by simpa [Lit.wf, IntKind.has] using h2
  have c1 : Tryz.prog.cellsOf 3 = 1 := by kernel_rfl
  have c2 : Tryz.prog.cellsOf 148 = 2 := by kernel_rfl
  obtain ⟨m, hm⟩ : ∃ m, Tryz.prog.types.size = m + 1 := ⟨Tryz.prog.types.size - 1, by have : 1 ≤ Tryz.prog.types.size := of_decide_eq_true (by kernel_rfl); omega⟩
  unfold keyOf
  rw [Tryz.underlying148]
  have f1 : (Tryz.prog.keyType 148 && (seatV p).formed Tryz.prog 148) = true := by
    rw [Bool.and_eq_true]; exact ⟨by kernel_rfl, by simp [Value.formed, seatV, Tryz.underlying148, c2]⟩
  simp only [f1, if_true, hm]
  refine ⟨.string (keyBytes [.int .i64 p.1, .int .i64 p.2]), ?_⟩
  have e : Tryz.prog.keyLits (m + 1 + 1) 148 (seatV p).cells.toList = some [.int .i64 p.1, .int .i64 p.2] := by
    simp [Program.keyLits, Tryz.underlying148, Tryz.underlying3, seatV, Value.cells, c1, c2, List.range_succ, w1, w2]
  rw [e]; rfl

/-- Nobody is away. -/
abbrev Away (c : Col) (k : Nat) (w : World) (b : Nat) : Prop := IsMap Tryz.prog 148 seatV nixV c k w b (fun _ => none) 0
theorem Away.look {c : Col} {k : Nat} {w : World} {b : Nat} (h : Away c k w b) {x y : Int} (hx : IntKind.i64.has x) (hy : IntKind.i64.has y) :
    (Instr.lookup 144 (.map (some b)) (.agg #[.int .i64 x, .int .i64 y]) true).run Tryz.prog w = .ok (.tuple #[.agg #[], .bool false]) w := by
  have hz : (zeroValue 150).run Tryz.prog w = .ok (.agg #[]) w := by simp [go_sem]
  exact IsMap.lookup h (t := 144) seatLaw seatV_inj Tryz.underlying144 hz (x, y) (seat_key hx hy)
theorem Away.new {c : Col} {w : World} (hok : Ok c w) : Away c 0 (w.alloc (.map #[] 0)) w.heap.size :=
  ⟨hok.fresh _ (Nat.le_refl _), #[], 0, heap_alloc_new w _, by simp, by simp, by simp, by simp, by simp⟩

/-- Rows of raw cells. -/
def TSig : Ty (List Value) where
  n := 37
  rd := fun _ _ _ vs x => vs = x ∧ x.length = 37 ∧ ∀ u ∈ x, u.oneCell' = true
  len := by rintro _ _ _ _ _ ⟨rfl, h, _⟩; exact h
  one := by rintro _ _ _ _ _ ⟨rfl, _, h⟩ u hu; exact h u hu
  keep := by rintro _ _ _ _ _ _ _ _ _ _ h; exact h
  turn := by rintro _ _ _ _ _ _ h; exact h
end Go.Proofs.YtgcobbapaaihiaaGreat

set_option linter.unusedVariables false
set_option linter.unusedSimpArgs false
namespace Go.Proofs.YtgcobbapaaihiaaGreat
open Go.RowKit

theorem fill_one {L B : List Value} {n : Nat} (hL : L.length = n) (hB : B.length = n) : Instr.fill (fun i => some (i * n, n)) L.toArray [(0, .agg B.toArray)] = some B.toArray := by
  subst hB
  have e := fill_at (place := fun i => some (i * B.length, B.length)) (L := L) (B := B) (i := 0) (off := 0) (v := .agg B.toArray) (rest := []) (by simp) rfl (by omega)
  rw [e, Instr.fill, List.take_zero, List.nil_append, List.drop_eq_nil_of_le (by omega), List.append_nil]

section
variable {P : Program}
theorem run_bs1 {w : World} {t e : TypeId} {B : List Value} {n : Nat} (hu : P.underlying t = some (.slice e)) (hs : (P.info? e).map (·.size) = some n) (hz : ((P.info? e).bind (·.zero)).isSome = true) (hB : B.length = n) (hp : 0 < n) (hsm : n ≤ 1000) :
    (Instr.buildSlice t 1 #[(0, .agg B.toArray)]).run P w = .ok (.slice (some ⟨w.heap.size, 0, none⟩) 1 1) (w.alloc (.cells B.toArray e)) := by
  cases hie : P.info? e with
  | none => simp [hie] at hs
  | some ie =>
    simp only [hie, Option.map_some, Option.some.injEq, Option.bind_some] at hs hz
    obtain ⟨z, hzz⟩ := Option.isSome_iff_exists.1 hz
    refine run_buildSlice w t e 1 _ B.toArray ie z hu hie hzz (by rw [hs]; omega) (by rw [hs]; omega) ?_
    rw [hs]
    have := fill_one (L := ((List.range (1 * n)).map (z.cells[· % z.cells.size]!))) (B := B) (n := n) (by simp) hB
    rw [← this]
    congr 1
    apply Array.ext'
    rw [Array.toList_map, Array.toList_range]
theorem step_bs1 {ops : Array Oper} {o : Oper} {a : Act} {w : World} {K : Act → World → Prop} {Q : Exit → Act → World → Prop} {E : Prop} (hgd : o.guard = none) {dd : Option Tmp} (hdd : o.dst = dd) (t e : TypeId) (x : Operand) (ho : o.op = .buildSlice t 1 #[(0, x)])
    (hu : P.underlying t = some (.slice e)) {B : List Value} {n : Nat} (hs : (P.info? e).map (·.size) = some n) (hz : ((P.info? e).bind (·.zero)).isSome = true) (hB : B.length = n) (hp : 0 < n) (hsm : n ≤ 1000) (hx : a.eval x = .agg B.toArray)
    (h : K (a.put dd (.slice (some ⟨w.heap.size, 0, none⟩) 1 1)) (w.alloc (.cells B.toArray e))) : if Region.wanted o (yielded ops a.tmps) = true then Oper.wp P o a w K Q else E := by
  subst hdd
  rw [if_pos (by simp [Region.wanted, hgd])]
  have r := run_bs1 (w := w) hu hs hz hB hp hsm
  unfold Oper.wp execOp
  have e : (#[((0 : Nat), x)].map fun (i, x) => (i, a.eval x)) = #[(0, .agg B.toArray)] := by simp [hx]
  simp only [ho, e, Sem.run_bind, r, Result.andThen_ok]
  exact h
theorem wpList_bs1 {ops : Array Oper} {rest : List Oper} {o : Oper} {a : Act} {w : World} {Q : Exit → Act → World → Prop} (hgd : o.guard = none) (dd : Option Tmp) (hdd : o.dst = dd) (t e : TypeId) (x : Operand) (ho : o.op = .buildSlice t 1 #[(0, x)])
    (hu : P.underlying t = some (.slice e)) {B : List Value} {n : Nat} (hs : (P.info? e).map (·.size) = some n) (hz : ((P.info? e).bind (·.zero)).isSome = true) (hB : B.length = n) (hp : 0 < n) (hsm : n ≤ 1000) (hx : a.eval x = .agg B.toArray)
    (h : wpList P ops Q rest (a.put dd (.slice (some ⟨w.heap.size, 0, none⟩) 1 1)) (w.alloc (.cells B.toArray e))) : wpList P ops Q (o :: rest) a w := by
  refine wpList_plain hgd fun K hK => ?_
  have := step_bs1 (ops := ops) (Q := Q) (K := K) (E := False) hgd hdd t e x ho hu hs hz hB hp hsm hx (hK _ _ h)
  rw [if_pos (by simp [Region.wanted, hgd])] at this
  exact this
end
end Go.Proofs.YtgcobbapaaihiaaGreat

set_option linter.unusedVariables false
set_option linter.unusedSimpArgs false
namespace Go.Proofs.YtgcobbapaaihiaaGreat
open Go.RowKit Go.WideMaps

def l1 : List Vld := [⟨[1, 0, 0, 0], 3⟩]
theorem l1_ok : VOk l1 := ⟨by decide, by decide, by decide, by decide⟩
def blo3 (h : Int) (prev z x y : List UInt8) : Blo := ⟨hdr2 h prev z x, ⟨h, y, [⟨0, (64 * h).toNat⟩]⟩, l1⟩
def bdP (vv mp : Value) (H HB : List Value) (ht : Int) (hash : List Value) : List Value := recC vv ++ (mp :: (H ++ (HB ++ (.int .i64 ht :: hash))))
theorem bd_eq (vv mp sv vc bv : Value) (H : List Value) (b : Blo) : bdC vv mp H (bloC b vc bv) sv = bdP vv mp H (hdrC b.h) b.cm.height (bC b.cm.hash) ++ [vc, bv, sv] := by simp [bdC, bdP, bloC, cmC]
theorem bdP_len {vv mp : Value} {H : List Value} {b : Blo} (hH : H.length = 131) (hw : b.h.Wf) (hh : b.cm.hash.length = 32) : (bdP vv mp H (hdrC b.h) b.cm.height (bC b.cm.hash)).length = 305 := by simp [bdP, recC, hH, hdrC_len hw, bC_len, hh]
theorem bd_cells {c : Col} {w : World} {bb kb : Nat} {vv mp sv vc bv : Value} {H : List Value} {b : Blo} (hH : H.length = 131) (hw : b.h.Wf) (hh : b.cm.hash.length = 32) (hd : At c w bb kb (bdC vv mp H (bloC b vc bv) sv)) :
    CellsAt w bb 273 (bC b.cm.hash) ∧ w.cell? ⟨bb, 305, none⟩ = some vc ∧ w.cell? ⟨bb, 306, none⟩ = some bv ∧ w.cell? ⟨bb, 307, none⟩ = some sv := by
  have h0 := hd.cells
  rw [bd_eq] at h0
  obtain ⟨h1, h2⟩ := cells_app h0
  rw [bdP_len hH hw hh, Nat.zero_add] at h2
  have e : bdP vv mp H (hdrC b.h) b.cm.height (bC b.cm.hash) = (recC vv ++ (mp :: (H ++ (hdrC b.h ++ [.int .i64 b.cm.height])))) ++ bC b.cm.hash := by simp [bdP]
  have el : (recC vv ++ (mp :: (H ++ (hdrC b.h ++ [.int .i64 b.cm.height])))).length = 273 := by simp [recC, hH, hdrC_len hw]
  rw [e] at h1
  have h3 := (cells_app h1).2
  rw [el, Nat.zero_add] at h3
  exact ⟨h3, h2 0 _ rfl, h2 1 _ rfl, h2 2 _ rfl⟩
theorem bd_set5 {vv mp sv vc bv v : Value} {H : List Value} {b : Blo} (hH : H.length = 131) (hw : b.h.Wf) (hh : b.cm.hash.length = 32) : (bdC vv mp H (bloC b vc bv) sv).set 305 v = bdC vv mp H (bloC b v bv) sv := by
  have hl := bdP_len (vv := vv) (mp := mp) hH hw hh
  rw [bd_eq, bd_eq, List.set_append_right _ _ (by omega), hl]
  rfl
theorem bd_set7 {vv mp sv vc bv v : Value} {H : List Value} {b : Blo} (hH : H.length = 131) (hw : b.h.Wf) (hh : b.cm.hash.length = 32) : (bdC vv mp H (bloC b vc bv) sv).set 307 v = bdC vv mp H (bloC b vc bv) v := by
  have hl := bdP_len (vv := vv) (mp := mp) hH hw hh
  rw [bd_eq, bd_eq, List.set_append_right _ _ (by omega), hl]
  rfl

theorem sig_fill (parts : List (Nat × Value)) : Tryz.prog.built 202 parts = Instr.fill ([(0, 4), (4, 32), (36, 1)].toArray[·]?) (zeroL 202).toArray parts := by kernel_rfl
theorem sig_zl : (zeroL 202).length = 37 := by kernel_rfl
def key1 : List Value := [.int .u8 1, .int .u8 0, .int .u8 0, .int .u8 0]
theorem sig_built {B : List Value} (hB : B.length = 32) (n : Int) : Tryz.prog.built 202 [(0, .agg key1.toArray), (1, .agg B.toArray), (2, .int .u64 n)] = some (key1 ++ (B ++ [Value.int .u64 n])).toArray := by
  rw [sig_fill]
  have hz := sig_zl
  obtain ⟨Z, hZ⟩ : ∃ Z, zeroL 202 = Z := ⟨_, rfl⟩
  rw [hZ] at hz ⊢
  have e1 := fill_next (place := ([(0, 4), (4, 32), (36, 1)].toArray[·]?)) (Pf := []) (Z := Z) (B := key1) (i := 0) (v := .agg key1.toArray) (rest := [(1, .agg B.toArray), (2, .int .u64 n)]) rfl rfl (by rw [hz]; decide)
  rw [List.nil_append] at e1
  rw [e1]
  have e2 := fill_next (place := ([(0, 4), (4, 32), (36, 1)].toArray[·]?)) (Pf := [] ++ key1) (Z := Z.drop key1.length) (B := B) (i := 1) (v := .agg B.toArray) (rest := [(2, .int .u64 n)]) (by rw [hB]; rfl) rfl (by simp [key1]; omega)
  rw [e2]
  have e3 := fill_next (place := ([(0, 4), (4, 32), (36, 1)].toArray[·]?)) (Pf := ([] ++ key1) ++ B) (Z := (Z.drop key1.length).drop B.length) (B := [.int .u64 n]) (i := 2) (v := .int .u64 n) (rest := []) (by rw [List.length_append, hB]; rfl) rfl (by simp [key1]; omega)
  rw [e3, Instr.fill, List.drop_drop, List.drop_drop, List.drop_eq_nil_of_le (by simp [key1]; omega)]
  simp
theorem infoSig : ∃ z b, (Tryz.prog.info? 202).map (fun i => (i.zero, i.size, i.bytes)) = some (some z, 37, b) ∧ z.cells.size = 37 ∧ b ≤ 48 := ⟨.agg (zeroL 202).toArray, 48, by kernel_rfl, by kernel_rfl, by decide⟩
theorem info_key2 : (Tryz.prog.info? 91).map (·.size) = some 4 := by kernel_rfl

section
variable {c : Col} {w : World}

set_option maxRecDepth 100000 in
set_option maxHeartbeats 3200000 in
theorem signed_built (hok : Ok c w) {bb kb ks mb : Nat} (hkb : kb ≠ 0) (hks : ks ≠ 0) (hkk : ks ≠ kb) {vv sv bv : Value} {h : Int} (hh : 1 ≤ h ∧ h ≤ 3) {prev z x y : List UInt8} (hp : prev.length = 32) (hz : z.length = 32)
    (hd : At c w bb kb (bdC vv (.map (some mb)) (hdrC (hdr1 h prev z)) (bloC (blo2 h prev z x y l1) (.slice none 0 0) bv) sv)) (hb : (blo2 h prev z x y l1).At c 0 w (.slice none 0 0) bv) (hm : Away c 0 w mb)
    {sl : List (List Value)} (hs : Own TSig 202 c ks 0 w sv sl) (hsl : sl.length ≤ 1000) :
    Calls Tryz.prog 89 #[.pointer (some ⟨bb, 0, none⟩)] w fun r w' => r = .returned (.pointer (some ⟨bb, 0, none⟩)) ∧
      ∃ (vc' sv' : Value) (sl' : List (List Value)) (c' : Col), sl'.length = sl.length + 1 ∧ At c' w' bb kb (bdC vv (.map (some mb)) (hdrC (hdr1 h prev z)) (bloC (blo3 h prev z x y) vc' bv) sv') ∧
        (blo3 h prev z x y).At c' 0 w' vc' bv ∧ Own TSig 202 c' ks 0 w' sv' sl' ∧ Step (Two kb ks) c w c' w' ∧ Ok c' w' := by
  obtain ⟨q, hq, hqc⟩ := hok.top (kb + ks)
  have hHl : (hdrC (hdr1 h prev z)).length = 131 := hdrC_len (hdr1_wf hh hp hz)
  obtain ⟨r1, r2, r3, r4⟩ := bd_cells hHl hb.h hb.hash hd
  obtain ⟨g, off, cap, rfl, hcap, hcm⟩ := hb.vals.some (show 0 < l1.length by decide)
  obtain ⟨vs, ⟨rfl, _, _⟩, hcs⟩ := hb.vals.at (show l1[0]? = some ⟨[1, 0, 0, 0], 3⟩ from rfl)
  have g0 := hcs.get 0 (u := .int .u8 1) rfl
  have g1 := hcs.get 1 (u := .int .u8 0) rfl
  have g2 := hcs.get 2 (u := .int .u8 0) rfl
  have g3 := hcs.get 3 (u := .int .u8 0) rfl
  have g4 := hcs.get 4 (u := .int .i64 3) rfl
  simp only [Nat.zero_mul, Nat.add_zero] at g0 g1 g2 g3 g4
  have e1 : (blo2 h prev z x y l1).vals.length = 1 := rfl
  rw [e1] at r3 hd hb
  have X := Lib.hid (And.intro hd (And.intro hb (And.intro hm (And.intro hs (And.intro hok (And.intro hh (And.intro hp (And.intro hz (And.intro hqc (And.intro r1 (And.intro r2 r4)))))))))))
  clear hd hb hm hs hok hh hp hz hqc r1 r2 r4 e1 hHl
  go_enter Tryz.func89, Tryz.ntmps89
  go_wp2_with fail
  refine wp_loop_rounds 2 ?_
  rw [rounds_succ]
  go_wp2_with fail
  obtain ⟨hd, hb, hm, hs, hok, hh, hp, hz, hqc, r1, r2, r4⟩ := X.out
  have av := At.new0 hok [.int .u8 1, .int .u8 0, .int .u8 0, .int .u8 0, .int .i64 3] 93
  have sv0 : Step No c w c (w.alloc (.cells #[.int .u8 1, .int .u8 0, .int .u8 0, .int .u8 0, .int .i64 3] 93)) := Step.refl.alloc _
  have ov := hok.alloc (.cells #[.int .u8 1, .int .u8 0, .int .u8 0, .int .u8 0, .int .i64 3] 93)
  obtain ⟨vb, hvb⟩ : ∃ b, w.heap.size = b := ⟨_, rfl⟩
  rw [hvb] at av ⊢
  obtain ⟨W0, hW0⟩ : ∃ W, w.alloc (.cells #[.int .u8 1, .int .u8 0, .int .u8 0, .int .u8 0, .int .i64 3] 93) = W := ⟨_, rfl⟩
  rw [hW0] at av sv0 ov ⊢
  have hhas : IntKind.i64.has h := ⟨Int.le_trans (by decide) hh.1, Int.le_trans hh.2 (by decide)⟩
  have h0has : IntKind.i64.has 0 := ⟨by decide, by decide⟩
  have KN : ∀ {c2 : Col} {w2 : World}, Step No c w c2 w2 → (fun W : World => W.cell? ⟨bb, 9, none⟩ = some (.map (some mb)) ∧ W.cell? ⟨bb, 11, none⟩ = some (.int .i64 h) ∧ (Instr.lookup 144 (.map (some mb)) (.agg #[.int .i64 h, .int .i64 0]) true).run Tryz.prog W = .ok (.tuple #[.agg #[], .bool false]) W) w2 :=
    fun h2 => ⟨(hd.kn h2).get (i := 9) rfl, (hd.kn h2).get (i := 11) rfl, Away.look (hm.kn h2) hhas h0has⟩
  have sd : Step No c W0 c W0.drew := Step.rf.drewN 1
  have KK := KN (sv0.trans sd)
  have KB : (fun W : World => W.cell? ⟨bb, 9, none⟩ = some (.map (some mb)) ∧ W.cell? ⟨bb, 11, none⟩ = some (.int .i64 h) ∧ (Instr.lookup 144 (.map (some mb)) (.agg #[.int .i64 h, .int .i64 0]) true).run Tryz.prog W = .ok (.tuple #[.agg #[], .bool false]) W) (W0.drew.alloc (.cells #[] 150)) := KN ((sv0.trans sd).alloc (.cells #[] 150))
  have X2 := Lib.hid (And.intro av (And.intro ((sv0.trans sd).alloc (.cells #[] 150)) ((ov.drewN 1).alloc (.cells #[] 150))))
  clear hd hb hm hs hok hp hz hqc r1 r2 r4 av sv0 ov sd hhas KN g0 g1 g2 g3 g4 r3 hh
  refine region_planM (fun W => W.cell? ⟨bb, 9, none⟩ = some (.map (some mb)) ∧ W.cell? ⟨bb, 11, none⟩ = some (.int .i64 h) ∧ (Instr.lookup 144 (.map (some mb)) (.agg #[.int .i64 h, .int .i64 0]) true).run Tryz.prog W = .ok (.tuple #[.agg #[], .bool false]) W) (fun _ => true) (by kernel_rfl) ?_
  refine tk3 0 _ 20 rfl rfl KK ?_
  refine tk3 1 _ 21 rfl rfl KK ?_
  refine tk3 2 _ 22 rfl rfl KK ?_
  refine tk3 3 _ 23 rfl rfl KK ?_
  refine tk3 4 _ 24 rfl rfl KK ?_
  refine tk3 5 _ 25 rfl rfl KK ?_
  refine tk3 6 _ 26 rfl rfl KK ?_
  refine tk3 7 _ 27 rfl rfl KK ?_
  refine tk3 8 _ 28 rfl rfl KK ?_
  refine tk3 9 _ 29 rfl rfl KK ?_
  refine tk3 10 _ 30 rfl rfl KK ?_
  refine tk3 11 _ 31 rfl rfl KK ?_
  refine tk3 12 _ 19 rfl rfl KK ?_
  refine tk3 13 _ 32 rfl rfl KK ?_
  refine tk3 14 _ 33 rfl rfl KK ?_
  refine wpAnyM.one (i := 15) (by kernel_rfl) rfl (fun KQ hK => ?_)
  go_simp
  refine hK.out _ _ (fun _ => KB) ?_
  clear hK KQ
  (try simp only [Act.put, List.setIfInBounds_toArray, List.set_cons_zero, List.set_cons_succ])
  refine wpAnyM.one (i := 16) (by kernel_rfl) rfl (fun KQ hK => ?_)
  go_simp
  refine hK.out _ _ (fun _ => KB) ?_
  clear hK KQ
  (try simp only [Act.put, List.setIfInBounds_toArray, List.set_cons_zero, List.set_cons_succ])
  refine wpAnyM.one (i := 17) (by kernel_rfl) rfl (fun KQ hK => ?_)
  go_simp
  refine hK.out _ _ (fun _ => KB) ?_
  clear hK KQ
  (try simp only [Act.put, List.setIfInBounds_toArray, List.set_cons_zero, List.set_cons_succ])
  refine wpAnyM.done (by kernel_rfl) ?_ _
  obtain ⟨hd, hb, hm, hs, hok, hh, hp, hz, hqc, r1, r2, r4⟩ := X.out
  obtain ⟨av, s1, o1⟩ := X2.out
  obtain ⟨W1, hW1⟩ : ∃ W, (W0.alloc (.cells #[] 150)).drew = W := ⟨_, rfl⟩
  have o1' : Ok c (W0.alloc (.cells #[] 150)).drew := o1
  have s1 : Step No c w c (W0.alloc (.cells #[] 150)).drew := s1
  have av1 : At c (W0.alloc (.cells #[] 150)).drew vb 0 [.int .u8 1, .int .u8 0, .int .u8 0, .int .u8 0, .int .i64 3] := av.kn ((Step.rf.drewN (K := No) 1).alloc _)
  rw [hW1] at s1 o1' av1 ⊢
  have hd1 := hd.kn s1
  have hHl : (hdrC (hdr1 h prev z)).length = 131 := hdrC_len (hdr1_wf hh hp hz)
  obtain ⟨r1, r2, r3, r4⟩ := bd_cells hHl hb.h hb.hash hd1
  obtain ⟨n, hn⟩ : ∃ n : Nat, (64 * h) = (n : Int) := ⟨(64 * h).toNat, by omega⟩
  have hn2 : n ≤ 192 := by omega
  have hw1 : IntKind.i64.wrap (64 * h) = (n : Int) := by rw [hn]; exact IntWalk.i64_in _ (by omega)
  have hw2 : IntKind.i64.wrap (n : Int) = (n : Int) := IntWalk.i64_in _ (by omega)
  have hw3 : IntKind.u64.wrap (n : Int) = (n : Int) := IntWalk.u64_in _ (by omega)
  have y11 := hd1.get (i := 11) (u := .int .i64 h) rfl
  obtain ⟨x1, x2, x3⟩ := put_one (T := TVot) (x := ⟨0, n⟩) (vs := [.int .i64 0, .int .u64 n]) (k2 := 0) o1' ⟨rfl, h0has, show n < 18446744073709551616 by omega⟩ 106
  have on := Own.nil TVot 106 c q 0 (W1.alloc (.cells [Value.int .i64 0, .int .u64 n].toArray 106))
  have hq0 : 0 ≠ q := by omega
  have hm1 : ([] : List Vot).length + [(⟨0, n⟩ : Vot)].length ≤ maxLen := by simp [maxLen]
  have hm2 : (([] : List Vot).length + [(⟨0, n⟩ : Vot)].length) * 16 ≤ 140737488355328 := by simp
  have X3 := Lib.hid (And.intro hd1 (And.intro (hb.kn s1) (And.intro (hm.kn s1) (And.intro (hs.kn s1) (And.intro s1 (And.intro hh (And.intro hp (And.intro hz (And.intro hqc (And.intro hn av1))))))))))
  have hHl2 := Lib.hid hHl
  clear X X2 hd hb hm hs hok hh hp hz hqc av s1 o1 o1' av1 hW1 hd1 hHl hn hn2 r1 KK KB
  go_wp2_with (at_builtin; refine wpList_app TVot x1 rfl _ _ 54 rfl 106 Tryz.underlying54 infoVot3 rfl (by decide) rfl rfl on x2 hq0 hm1 hm2 ?_; rintro v2 w2 c2 b1 b2 b3 -; obtain ⟨va2, vc2, rfl, _⟩ := b1.sl.form; have d2 := (X3.out.1.kn x3).keep b2 (show ¬ kb = q by omega); have y2 := (bd_cells hHl2.out X3.out.2.1.h X3.out.2.1.hash d2).2.1; have yf := d2.fz b3 hkb 305; have X4 := Lib.hid (And.intro b1 (And.intro b2 (And.intro b3 (And.intro x3 d2)))); clear b1 b2 b3 x1 x2 x3 on r2 r3 r4 y11 d2)
  obtain ⟨b1, b2, b3, x3, d2⟩ := X4.out
  obtain ⟨_, hb, hm, hs, s1, hh, hp, hz, hqc, hn, av1⟩ := X3.out
  have d5 := d2.setN (i := 305) (by rw [bd_eq, List.length_append, bdP_len hHl2.out hb.h hb.hash]; simp) (.slice va2 1 vc2)
  rw [bd_set5 hHl2.out hb.h hb.hash] at d5
  have s5 : Step (One kb) c2 w2 c2 (w2.setCell ⟨bb, 305, none⟩ (.slice va2 1 vc2)) := (Step.refl (K := One kb)).setCell (a := ⟨bb, 305, none⟩) (.inr d2.col) _
  have o5 := b3.setCell ⟨bb, 305, none⟩ (.slice va2 1 vc2)
  have st5 : Step (fun j => j = kb ∨ j = ks ∨ q ≤ j) c w c2 (w2.setCell ⟨bb, 305, none⟩ (.slice va2 1 vc2)) := (((s1.trans x3).ofNo (K := fun j => j = kb ∨ j = ks ∨ q ≤ j)).trans (b2.mono fun j (e : j = q) => .inr (.inr (by omega)))).trans (s5.mono fun j (e : j = kb) => .inl e)
  have hs5 := ((hs.kn x3).keep b2 (show ¬ ks = q by omega) (show ¬ 0 = q by omega)).keep s5 (show ¬ ks = kb from hkk) (show ¬ 0 = kb by omega)
  have av5 := ((av1.kn x3).keep b2 (show ¬ 0 = q by omega)).keep s5 (show ¬ 0 = kb by omega)
  have bv5 := ((hb.kn x3).keep b2 (show ¬ 0 = q by omega)).keep s5 (show ¬ 0 = kb by omega)
  have b15 := b1.keep s5 (show ¬ q = kb by omega) (show ¬ 0 = kb by omega)
  obtain ⟨W5, hW5⟩ : ∃ W, w2.setCell ⟨bb, 305, none⟩ (.slice va2 1 vc2) = W := ⟨_, rfl⟩
  rw [hW5] at d5 s5 o5 st5 hs5 av5 bv5 b15 ⊢
  obtain ⟨sa, sn, rfl, _⟩ := hs5.sl.form
  have KN : ∀ {c' : Col} {w' : World}, Step (One ks) c2 W5 c' w' → (fun W : World => W.cell? ⟨bb, 307, none⟩ = some (.slice sa sl.length sn) ∧ (Instr.loadAt 91 (.pointer (some ⟨vb, 0, none⟩))).run Tryz.prog W = .ok (.agg key1.toArray) W ∧ (Instr.loadAt 51 (.pointer (some ⟨bb, 273, none⟩))).run Tryz.prog W = .ok (.agg (bC y).toArray) W) w' := fun st => by
    have d6 := d5.keep st (show ¬ kb = ks by omega)
    obtain ⟨r1, r2, r3, r4⟩ := bd_cells hHl2.out hb.h hb.hash d6
    have a6 := (av5.keep st (show ¬ 0 = ks by omega)).cells
    have a7 := (cells_app (xs := key1) (ys := [.int .i64 3]) a6).1
    have hy : (bC y).length = 32 := by have := hb.hash; rw [bC_len]; exact this
    exact ⟨r4, run_loadAt_mid _ vb 0 91 key1 _ a7 Tryz.underlying91 rfl info_key2, run_loadAt_mid _ bb 273 51 (bC y) _ r1 Tryz.underlying51 rfl (by rw [info_hash, hy])⟩
  have hy : (bC y).length = 32 := by have := hb.hash; rw [bC_len]; exact this
  have hbu := sig_built hy (n : Int)
  have KK := KN ((Step.refl (K := One ks)).drewN 1)
  have sd : Step (One ks) c2 W5 c2 W5.drew := (Step.refl (K := One ks)).drewN 1
  have od : Ok c2 W5.drew := o5.drewN 1
  clear KK
  have KK := KN sd
  obtain ⟨S, hS⟩ : ∃ S, key1 ++ (bC y ++ [.int .u64 (n : Int)]) = S := ⟨_, rfl⟩
  rw [hS] at hbu
  have hSl : S.length = 37 := by rw [← hS, List.length_append, List.length_append, hy]; rfl
  have hS1 : ∀ u ∈ S, u.oneCell' = true := by
    intro u hu
    rw [← hS] at hu
    simp only [key1, List.mem_append, List.mem_cons, List.not_mem_nil, or_false] at hu
    rcases hu with (rfl | rfl | rfl | rfl) | hu | rfl
    · rfl
    · rfl
    · rfl
    · rfl
    · exact bC_one y u hu
    · rfl
  have X5 := Lib.hid (And.intro d5 (And.intro st5 (And.intro hs5 (And.intro bv5 (And.intro b15 (And.intro o5 (And.intro hSl (And.intro hS1 (And.intro hh (And.intro hp (And.intro hz (And.intro hqc hn))))))))))))
  clear b1 b2 b3 x3 d2 hb hm hs s1 hh hp hz hqc hn av1 d5 s5 o5 st5 hs5 av5 bv5 b15 hy hSl hS1 hS X3 X4 hW5 yf y2 hw1 hw2 hw3
  refine region_planM (fun W => W.cell? ⟨bb, 307, none⟩ = some (.slice sa sl.length sn) ∧ (Instr.loadAt 91 (.pointer (some ⟨vb, 0, none⟩))).run Tryz.prog W = .ok (.agg key1.toArray) W ∧ (Instr.loadAt 51 (.pointer (some ⟨bb, 273, none⟩))).run Tryz.prog W = .ok (.agg (bC y).toArray) W) (fun i => !([19] : List Nat).contains i) (by kernel_rfl) ?_
  refine tk3 0 _ 60 rfl rfl KK ?_
  refine tk3 1 _ 61 rfl rfl KK ?_
  refine tk3 2 _ 62 rfl rfl KK ?_
  refine tk3 3 _ 63 rfl rfl KK ?_
  refine tk3 4 _ 64 rfl rfl KK ?_
  refine tk3 5 _ 65 rfl rfl KK ?_
  refine tk 6 _ 66 rfl rfl (Or.inl ⟨by rfl, fun W hW => by obtain ⟨q0, q1, q2⟩ := hW; exact y_load 91 q1 (.tmp 65) rfl rfl⟩) KK ?_
  refine tk3 7 _ 67 rfl rfl KK ?_
  refine tk3 8 _ 68 rfl rfl KK ?_
  refine tk3 9 _ 69 rfl rfl KK ?_
  refine tk3 10 _ 70 rfl rfl KK ?_
  refine tk3 11 _ 71 rfl rfl KK ?_
  refine tk 12 _ 72 rfl rfl (Or.inl ⟨by rfl, fun W hW => by obtain ⟨q0, q1, q2⟩ := hW; exact y_load 51 q2 (.tmp 71) rfl rfl⟩) KK ?_
  refine tk3 13 _ 73 rfl rfl KK ?_
  refine tk 14 _ 74 rfl rfl (Or.inl ⟨by rfl, fun W hW => by obtain ⟨q0, q1, q2⟩ := hW; exact y_build 202 hbu #[(0, .tmp 66), (1, .tmp 72), (2, .tmp 73)] rfl rfl⟩) KK ?_
  refine wpAnyM.one (i := 15) (by kernel_rfl) rfl (fun KQ hK => ?_)
  obtain ⟨d5, st5, hs5, bv5, b15, o5, hSl, hS1, hh, hp, hz, hqc, hn⟩ := X5.out
  obtain ⟨p1, p2, p3⟩ := put_one (T := TSig) (x := S) (vs := S) (k2 := 0) od ⟨rfl, hSl, hS1⟩ 202
  obtain ⟨zz, bz, i1, i2, i3⟩ := infoSig
  have KK := KN (sd.trans p3.ofNo)
  have hs6 := ((hs5.kn (Step.rf.drewN (K := No) 1)).kn p3)
  have hq0 : 0 ≠ ks := fun e => hks e.symm
  have hm1 : sl.length + [S].length ≤ maxLen := by simp [maxLen]; omega
  have hm2 : (sl.length + [S].length) * bz ≤ 140737488355328 := by
    have : (sl.length + [S].length) * bz ≤ 1001 * 48 := Nat.mul_le_mul (by simp; omega) i3
    omega
  have sp := sd.trans (p3.ofNo (K := One ks))
  have isz : (Tryz.prog.info? 202).map (·.size) = some 37 := by kernel_rfl
  have izz : ((Tryz.prog.info? 202).bind (·.zero)).isSome = true := by kernel_rfl
  clear d5 st5 hs5 bv5 b15 o5 hS1 hh hp hz hqc hn p3 sd od
  refine step_bs1 rfl (dd := some 75) rfl 42 202 (.tmp 74) rfl Tryz.underlying42 isz izz hSl (by decide) (by decide) rfl ?_
  clear isz izz hSl
  refine hK.out _ _ (fun _ => KK) ?_
  clear hK KQ
  (try simp only [Act.put, List.setIfInBounds_toArray, List.set_cons_zero, List.set_cons_succ])
  refine wpAnyM.one (i := 16) (by kernel_rfl) rfl (fun KQ hK => ?_)
  refine step_app TSig p1 rfl _ _ 42 rfl 202 Tryz.underlying42 i1 i2 (by decide) rfl rfl hs6 p2 hq0 hm1 hm2 ?_
  rintro v7 w7 c7 b1 b2 b3 -
  obtain ⟨va7, vc7, rfl, _⟩ := b1.sl.form
  have KK := KN (sp.trans b2)
  have yf := (X5.out.1.keep (sp.trans b2) (show ¬ kb = ks by omega)).fz b3 hkb 307
  refine hK.out _ _ (fun _ => KK) ?_
  clear hK KQ
  (try simp only [Act.put, List.setIfInBounds_toArray, List.set_cons_zero, List.set_cons_succ])
  refine tk3 17 _ 77 rfl rfl KK ?_
  refine tk3 18 _ 78 rfl rfl KK ?_
  refine wpAnyM.one (i := 19) (by kernel_rfl) rfl (fun KQ hK => ?_)
  go_simp
  refine hK.out _ _ (fun h => absurd h (by decide)) ?_
  clear hK KQ
  (try simp only [Act.put, List.setIfInBounds_toArray, List.set_cons_zero, List.set_cons_succ])
  refine wpAnyM.done (by kernel_rfl) ?_ _
  obtain ⟨d5, st5, hs5, bv5, b15, o5, hSl, hS1, hh, hp, hz, hqc, hn⟩ := X5.out
  have stA : Step (One ks) c2 W5 c7 w7 := sp.trans b2
  have d7 := d5.keep stA (show ¬ kb = ks by omega)
  have d8 := d7.setN (i := 307) (by rw [bd_eq, List.length_append, bdP_len hHl2.out bv5.h bv5.hash]; simp) (.slice va7 (sl ++ [S]).length vc7)
  rw [bd_set7 hHl2.out bv5.h bv5.hash] at d8
  have s8 : Step (One kb) c7 w7 c7 (w7.setCell ⟨bb, 307, none⟩ (.slice va7 (sl ++ [S]).length vc7)) := (Step.refl (K := One kb)).setCell (a := ⟨bb, 307, none⟩) (.inr d7.col) _
  have o8 := b3.setCell ⟨bb, 307, none⟩ (.slice va7 (sl ++ [S]).length vc7)
  have own8 := b1.keep s8 (show ¬ ks = kb from hkk) (show ¬ 0 = kb by omega)
  have bv8 := (bv5.keep stA (show ¬ 0 = ks by omega)).keep s8 (show ¬ 0 = kb by omega)
  have vt8 := (b15.keep stA (show ¬ q = ks by omega) (show ¬ 0 = ks by omega)).keep s8 (show ¬ q = kb by omega) (show ¬ 0 = kb by omega)
  have st8 : Step (fun j => j = kb ∨ j = ks ∨ q ≤ j) c w c7 (w7.setCell ⟨bb, 307, none⟩ (.slice va7 (sl ++ [S]).length vc7)) := (st5.trans (stA.mono fun j (e : j = ks) => .inr (.inl e))).trans (s8.mono fun j (e : j = kb) => .inl e)
  have hll : (sl ++ [S]).length = sl.length + 1 := by simp
  rw [hll] at d8 s8 o8 own8 bv8 vt8 st8
  obtain ⟨W8, hW8⟩ : ∃ W, w7.setCell ⟨bb, 307, none⟩ (.slice va7 (sl.length + 1) vc7) = W := ⟨_, rfl⟩
  rw [hW8] at d8 s8 o8 own8 bv8 vt8 st8 ⊢
  have tt : Step (One q) c7 W8 (c7.turn q 0) W8 := (Step.refl (K := One q)).turn rfl
  have ot : Ok (c7.turn q 0) W8 := o8.turn (by omega)
  have vt9 := (vt8.turn (k := 0) (show 0 ≠ q by omega)).sl
  have bv9 := bv8.keep tt (show ¬ 0 = q by omega)
  have B3 : (blo3 h prev z x y).At (c7.turn q 0) 0 W8 (.slice va2 1 vc2) (.slice (some ⟨g, off, none⟩) 1 cap) := by
    have en : (64 * h).toNat = n := by rw [hn]; rfl
    exact ⟨bv9.h, bv9.hash, bv9.height, by show Sl TVot _ 0 0 W8 _ [⟨0, (64 * h).toNat⟩]; rw [en]; exact vt9, bv9.vals, by show 1 ≤ 1000000000; omega, bv9.nvals⟩
  have d9 : At (c7.turn q 0) W8 bb kb (bdC vv (.map (some mb)) (hdrC (hdr1 h prev z)) (bloC (blo3 h prev z x y) (.slice va2 1 vc2) (.slice (some ⟨g, off, none⟩) 1 cap)) (.slice va7 (sl.length + 1) vc7)) := d8.keep tt (show ¬ kb = q by omega)
  have sF : Step (Two kb ks) c w (c7.turn q 0) W8 := (st8.turn (.inr (.inr (Nat.le_refl q)))).drop fun b _ e => by
    have := hqc b
    rcases e with e | e | e
    · exact .inl e
    · exact .inr e
    · omega
  have F := Lib.hid (And.intro d9 (And.intro B3 (And.intro (own8.keep tt (show ¬ ks = q by omega) (show ¬ 0 = q by omega)) (And.intro sF (And.intro ot hll)))))
  clear d5 st5 hs5 bv5 b15 o5 hSl hS1 hh hp hz hqc hn stA d7 d8 s8 o8 own8 bv8 vt8 st8 tt ot vt9 bv9 B3 d9 sF hW8 b1 b2 b3 KK yf X5 hs6 p1 p2 hm1 hm2 i1 i2 i3 hq0 KN
  go_wp2_with fail
  rw [rounds_succ]
  go_wp2_with fail
  go_ret
  obtain ⟨f1, f2, f3, f4, f5, f6⟩ := F.out
  exact ⟨rfl, _, _, _, _, f6, f1, f2, f3, f4, f5⟩
end
end Go.Proofs.YtgcobbapaaihiaaGreat
