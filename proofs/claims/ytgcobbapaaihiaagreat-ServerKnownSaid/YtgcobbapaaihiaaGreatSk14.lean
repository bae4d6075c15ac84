/- ServerKnown, part 14: lemmas, each with its own conditions. -/
import Derived.Test.YtgcobbapaaihiaaGreatSk10
import Derived.Test.YtgcobbapaaihiaaGreatSk13
import Derived.Lib.OthersKept
import Derived.Laws.CopyOwn
set_option linter.unusedVariables false
set_option linter.unusedSimpArgs false
namespace Go.Proofs.YtgcobbapaaihiaaGreat
open Go.RowKit

section
variable {P : Program}
/-- copy, where all cells that are written are there. -/
theorem wp_copy {o : Oper} {a : Act} {w : World} {K : Act → World → Prop} {Q : Exit → Act → World → Prop} (d s : Operand) (dT sT : TypeId)
    (ho : o.op = .call { callee := .builtin .copy, args := #[d, s], argTypes := #[dT, sT] }) (elem : TypeId) (hu : P.underlying dT = some (.slice elem)) (hsz : (P.info? elem).map (·.size) = some 1)
    (b off dLen dCap : Nat) (ad : Addr) (sLen sCap : Nat) (hd : a.eval d = .slice (some ⟨b, off, none⟩) dLen dCap) (hs : a.eval s = .slice (some ad) sLen sCap)
    (cs : List Value) (hn : cs.length = Nat.min sLen dLen) (hsrc : ∀ j v, cs[j]? = some v → w.cell? (ad.add j) = some v) (ht : w.there b off cs.length) (h1 : ∀ v ∈ cs, v.oneCell' = true)
    (h : K (a.put o.dst (goInt cs.length)) (w.setCells b off cs)) : o.wp P a w K Q := by
  have hrun := run_copy_cells (P := P) w dT sT o.type elem b off dLen dCap ad sLen sCap cs hu hsz hn hsrc (fun j hj => (ht j hj).1) (fun j hj => (ht j hj).2) h1
  unfold Oper.wp execOp
  simp only [ho, resolve, invoke, builtin, Sem.run_bind, Sem.run_pure, Result.andThen_ok, List.map_toArray, List.map_cons, List.map_nil, hd, hs, hrun]
  exact h

theorem step_copy {ops : Array Oper} {o : Oper} {a : Act} {w : World} {K : Act → World → Prop} {Q : Exit → Act → World → Prop} {E : Prop} (hgd : o.guard = none) {dd : Option Tmp} (hdd : o.dst = dd) (d s : Operand) (dT sT : TypeId)
    (ho : o.op = .call { callee := .builtin .copy, args := #[d, s], argTypes := #[dT, sT] }) (elem : TypeId) (hu : P.underlying dT = some (.slice elem)) (hsz : (P.info? elem).map (·.size) = some 1)
    (b off dLen dCap : Nat) (ad : Addr) (sLen sCap : Nat) (hd : a.eval d = .slice (some ⟨b, off, none⟩) dLen dCap) (hs : a.eval s = .slice (some ad) sLen sCap)
    (cs : List Value) (hn : cs.length = Nat.min sLen dLen) (hsrc : ∀ j v, cs[j]? = some v → w.cell? (ad.add j) = some v) (ht : w.there b off cs.length) (h1 : ∀ v ∈ cs, v.oneCell' = true)
    (h : K (a.put dd (goInt cs.length)) (w.setCells b off cs)) : if Region.wanted o (yielded ops a.tmps) = true then Oper.wp P o a w K Q else E := by
  subst hdd
  rw [if_pos (by simp [Region.wanted, hgd])]
  exact wp_copy d s dT sT ho elem hu hsz b off dLen dCap ad sLen sCap hd hs cs hn hsrc ht h1 h
end

/-- Words in the midst of a block, whatever they are. -/
structure WdsM (c : Col) (w : World) (b k : Nat) (pre post : List Value) (n : Nat) : Prop where
  at_ : ∃ l, l.length = n ∧ (∀ x ∈ l, x < 4294967296) ∧ At c w b k (pre ++ (u32C l ++ post))

theorem WdsM.cell {c : Col} {w : World} {b k n : Nat} {pre post : List Value} (h : WdsM c w b k pre post n) {i : Nat} (hi : i < n) : ∃ x : Nat, x < 4294967296 ∧ w.cell? ⟨b, pre.length + i, none⟩ = some (.int .u32 x) := by
  obtain ⟨l, hl, hx, a⟩ := h.at_
  refine ⟨l[i]'(by omega), hx _ (List.getElem_mem _), a.get ?_⟩
  rw [List.getElem?_append_right (by omega), List.getElem?_append_left (by rw [u32C_len]; omega), Nat.add_sub_cancel_left]
  simp only [u32C, List.getElem?_map]; rw [List.getElem?_eq_getElem (by omega)]; rfl
theorem WdsM.keep {K : Nat → Prop} {c c' : Col} {w w' : World} {b k n : Nat} {pre post : List Value} (h : WdsM c w b k pre post n) (hs : Step K c w c' w') (hk : ¬ K k) : WdsM c' w' b k pre post n := by
  obtain ⟨l, hl, hx, a⟩ := h.at_
  exact ⟨l, hl, hx, a.keep hs hk⟩
theorem WdsM.set {c : Col} {w : World} {b k n : Nat} {pre post : List Value} (h : WdsM c w b k pre post n) {i : Nat} (hi : i < n) (x : Nat) (hx : x < 4294967296) : WdsM c (w.setCell ⟨b, pre.length + i, none⟩ (.int .u32 x)) b k pre post n := by
  obtain ⟨l, hl, hl2, a⟩ := h.at_
  refine ⟨l.set i x, by simp [hl], fun y hy => ?_, ?_⟩
  · rcases List.mem_or_eq_of_mem_set hy with h | rfl
    · exact hl2 y h
    · exact hx
  · have := a.setN (i := pre.length + i) (by simp only [List.length_append, u32C_len, hl]; omega) (.int .u32 (x : Int))
    rw [List.set_append_right _ _ (by omega), Nat.add_sub_cancel_left, List.set_append_left _ _ (by rw [u32C_len]; omega)] at this
    rw [show (u32C l).set i (.int .u32 (x : Int)) = u32C (l.set i x) by simp [u32C, List.map_set]] at this
    exact this
theorem WdsM.col {c : Col} {w : World} {b k n : Nat} {pre post : List Value} (h : WdsM c w b k pre post n) : c b = k := by obtain ⟨l, _, _, a⟩ := h.at_; exact a.col
theorem WdsM.lt {c : Col} {w : World} {b k n : Nat} {pre post : List Value} (h : WdsM c w b k pre post n) : b < w.heap.size := by obtain ⟨l, _, _, a⟩ := h.at_; exact a.lt
theorem Wds.lt {c : Col} {w : World} {b k n : Nat} (h : Wds c w b k n) : b < w.heap.size := by obtain ⟨l, _, _, a⟩ := h.at_; exact a.lt
theorem Wds.off {c : Col} {w : World} {b k n : Nat} (h : Wds c w b k n) {b' o : Nat} {u : Value} (hb : b ≠ b') : Wds c (w.setCell ⟨b', o, none⟩ u) b k n := by
  obtain ⟨l, hl, hx, a⟩ := h.at_
  exact ⟨l, hl, hx, a.offC b' o u hb⟩
theorem WdsM.off {c : Col} {w : World} {b k n : Nat} {pre post : List Value} (h : WdsM c w b k pre post n) {b' o : Nat} {u : Value} (hb : b ≠ b') : WdsM c (w.setCell ⟨b', o, none⟩ u) b k pre post n := by
  obtain ⟨l, hl, hx, a⟩ := h.at_
  exact ⟨l, hl, hx, a.offC b' o u hb⟩

/-- Cells of words, written over a part of words. -/
theorem Wds.setN {c : Col} {w : World} {b k n : Nat} (h : Wds c w b k n) (hok : Ok c w) (hk : k ≠ 0) {o : Nat} {l : List Nat} (hl : ∀ x ∈ l, x < 4294967296) (hn : o + l.length ≤ n) :
    w.there b o (u32C l).length ∧ Wds c (w.setCells b o (u32C l)) b k n := by
  constructor
  · obtain ⟨m, hm, hx, a⟩ := h.at_
    exact a.there hok hk (by rw [u32C_len, u32C_len]; omega)
  · induction l generalizing w o with
    | nil => exact h
    | cons x r ih =>
      have h1 := h.set (i := o) (by simp at hn; omega) x (hl x (by simp))
      exact ih h1 (hok.setCell _ _) (fun y hy => hl y (by simp [hy])) (by simp at hn; omega)

/-- Words in a block, as copy reads them. -/
theorem WdsM.src {c : Col} {w : World} {b k n : Nat} {pre post : List Value} (h : WdsM c w b k pre post n) : ∃ l, l.length = n ∧ (∀ x ∈ l, x < 4294967296) ∧ ∀ j v, (u32C l)[j]? = some v → w.cell? ((⟨b, pre.length, none⟩ : Addr).add j) = some v := by
  obtain ⟨l, hl, hx, a⟩ := h.at_
  refine ⟨l, hl, hx, fun j v hj => ?_⟩
  have hadd : (⟨b, pre.length, none⟩ : Addr).add j = ⟨b, pre.length + j, none⟩ := by unfold Addr.add; split <;> simp_all
  rw [hadd]
  refine a.get ?_
  have hjl : j < (u32C l).length := (List.getElem?_eq_some_iff.1 hj).1
  rw [List.getElem?_append_right (by omega), Nat.add_sub_cancel_left, List.getElem?_append_left hjl]
  exact hj
theorem Wds.mid {c : Col} {w : World} {b k n : Nat} (h : Wds c w b k n) : WdsM c w b k [] [] n := by
  obtain ⟨l, hl, hx, a⟩ := h.at_
  exact ⟨l, hl, hx, by simpa using a⟩

/-- A word, as an element. -/
def TU32 : Ty Nat where
  n := 1
  rd := fun _ _ _ vs x => vs = [.int .u32 x] ∧ x < 4294967296
  len := by rintro _ _ _ _ _ ⟨rfl, _⟩; rfl
  one := by rintro _ _ _ _ _ ⟨rfl, _⟩ u hu; simp at hu; subst hu; rfl
  keep := by rintro _ _ _ _ _ _ _ _ _ _ h; exact h
  turn := by rintro _ _ _ _ _ _ h; exact h

theorem infoU32 : (Tryz.prog.info? 269).map (fun i => (i.zero, i.size, i.bytes)) = some (some (.int .u32 0), 1, 4) := by kernel_rfl
theorem infoU32s : (Tryz.prog.info? 269).map (·.size) = some 1 := by kernel_rfl
theorem sizeU32 (W : World) : (sizeOf 269).run Tryz.prog W = .ok 1 W := by
  obtain ⟨i, hi, hz, hs1, hb1⟩ := info_parts infoU32
  simp [sizeOf, typeInfo, hi, hs1]
theorem run_v8h (W : World) (b : Nat) : (Instr.sliceAt 284 (.pointer (some ⟨b, 0, none⟩)) none (some (.int .i64 8)) none).run Tryz.prog W = .ok (.slice (some ⟨b, 0, none⟩) 8 16) W := by
  have ht := Tryz.underlying284
  have ha : Tryz.prog.arrayLen 284 = 16 := by simp [Program.arrayLen, ht]
  have he : Tryz.prog.elem 284 = 269 := by simp [Program.elem, ht]
  rw [run_sliceAt_array_h W 284 ⟨b, 0, none⟩ (by rw [ha, he]; exact ht) .i64 8 (by omega) (by rw [ha]; omega), he, sizeU32, ha]
  simp [Result.andThen, slicedAt, Addr.add]
theorem run_v8l (W : World) (b : Nat) : (Instr.sliceAt 284 (.pointer (some ⟨b, 0, none⟩)) (some (.int .i64 8)) none none).run Tryz.prog W = .ok (.slice (some ⟨b, 8, none⟩) 8 8) W := by
  have ht := Tryz.underlying284
  have ha : Tryz.prog.arrayLen 284 = 16 := by simp [Program.arrayLen, ht]
  have he : Tryz.prog.elem 284 = 269 := by simp [Program.elem, ht]
  rw [run_sliceAt_array_l W 284 ⟨b, 0, none⟩ (by rw [ha, he]; exact ht) .i64 8 (by omega) (by rw [ha]; omega), he, sizeU32, ha]
  simp [Result.andThen, slicedAt, Addr.add]
theorem run_w8 (W : World) (b o : Nat) : (Instr.sliceAt 271 (.pointer (some ⟨b, o, none⟩)) none none none).run Tryz.prog W = .ok (.slice (some ⟨b, o, none⟩) 8 8) W := by
  have ht := Tryz.underlying271
  have ha : Tryz.prog.arrayLen 271 = 8 := by simp [Program.arrayLen, ht]
  have he : Tryz.prog.elem 271 = 269 := by simp [Program.elem, ht]
  rw [run_sliceAt_array_all W 271 ⟨b, o, none⟩ (by rw [ha, he]; exact ht), he, sizeU32, ha]
  simp [Result.andThen, slicedAt, Addr.add]

/-! ### A string's iterator -/
structure ItAt (c : Col) (w : World) (b k : Nat) (s : ByteArray) (pos : Nat) : Prop where
  col : c b = k
  it : w.heap[b]? = some (.stringIter s pos)

theorem ItAt.lt {c : Col} {w : World} {b k : Nat} {s : ByteArray} {pos : Nat} (h : ItAt c w b k s pos) : b < w.heap.size := (Array.getElem?_eq_some_iff.1 h.it).1
theorem ItAt.keep {K : Nat → Prop} {c c' : Col} {w w' : World} {b k : Nat} {s : ByteArray} {pos : Nat} (h : ItAt c w b k s pos) (hs : Step K c w c' w') (hk : ¬ K k) : ItAt c' w' b k s pos :=
  ⟨by rw [hs.col b h.lt (by rw [h.col]; exact hk)]; exact h.col, by rw [hs.block b h.lt (by rw [h.col]; exact hk)]; exact h.it⟩
theorem ItAt.new {c : Col} {w : World} (hok : Ok c w) (s : ByteArray) (k : Nat) :
    ItAt (c.put w.heap.size k) (w.alloc (.stringIter s 0)) w.heap.size k s 0 ∧ Ok (c.put w.heap.size k) (w.alloc (.stringIter s 0)) ∧ Step No c w (c.put w.heap.size k) (w.alloc (.stringIter s 0)) := by
  have hnew : (w.alloc (.stringIter s 0)).heap[w.heap.size]? = some (.stringIter s 0) := heap_alloc_new w _
  exact ⟨⟨by simp, hnew⟩, (hok.alloc _).put (by simp) (fun o => by unfold World.frozen?; rw [hnew]), (Step.refl.alloc _).put (.inl (Nat.le_refl _))⟩
theorem ItAt.move {c : Col} {w : World} {b k : Nat} {s : ByteArray} {pos : Nat} (h : ItAt c w b k s pos) (hok : Ok c w) (pos' : Nat) :
    ItAt c (w.iterAt b s pos') b k s pos' ∧ Ok c (w.iterAt b s pos') ∧ Step (One k) c w c (w.iterAt b s pos') := by
  have hi := Go.Lib.iterAt_heap w b s pos pos' h.it
  refine ⟨⟨h.col, hi⟩, ⟨fun j hj => hok.fresh j (by rw [Go.Lib.iterAt_size] at hj; exact hj), fun j o hc => ?_⟩, ⟨rfl, rfl, rfl, by rw [Go.Lib.iterAt_size]; exact Nat.le_refl _, fun j _ hk => Go.Lib.iterAt_other w b j s pos' (by rintro rfl; exact hk h.col), fun _ _ _ => rfl⟩⟩
  by_cases e : j = b
  · subst e
    unfold World.frozen?; rw [hi]
  · have := hok.soft j o hc
    unfold World.frozen? at this ⊢
    rw [show (w.iterAt b s pos').heap[j]? = w.heap[j]? from Go.Lib.iterAt_other w b j s pos' e]
    exact this

theorem Sl.some {α : Type} {T : Ty α} {c : Col} {k k2 : Nat} {w : World} {v : Value} {l : List α} (h : Sl T c k k2 w v l) (hl : 0 < l.length) : ∃ g off cap, v = .slice (some ⟨g, off, none⟩) l.length cap ∧ l.length ≤ cap ∧ cap ≤ maxLen := by
  rcases h with ⟨rfl, _⟩ | ⟨b, off, cap, rfl, h1, h2, _⟩
  · simp at hl
  · exact ⟨b, off, cap, rfl, h1, h2⟩

/-- There is a colour above all that there are, and above any given one. -/
theorem Ok.top {c : Col} {w : World} (h : Ok c w) (n : Nat) : ∃ k, n < k ∧ ∀ b, c b < k := by
  have hm : ∀ m, ∃ u, ∀ b, b < m → c b ≤ u := by
    intro m
    induction m with
    | zero => exact ⟨0, fun b hb => absurd hb (Nat.not_lt_zero b)⟩
    | succ m ih =>
      obtain ⟨u, hu⟩ := ih
      refine ⟨max u (c m), fun b hb => ?_⟩
      by_cases e : b = m
      · subst e; exact Nat.le_max_right _ _
      · exact Nat.le_trans (hu b (by omega)) (Nat.le_max_left _ _)
  obtain ⟨u, hu⟩ := hm w.heap.size
  refine ⟨max u n + 1, by omega, fun b => ?_⟩
  by_cases hb : b < w.heap.size
  · have := hu b hb; omega
  · have := h.fresh b (by omega); omega

/-- A colour, and all new ones. -/
def Hi (a k : Nat) : Nat → Prop := fun j => j = a ∨ k ≤ j
theorem Step.low {c c' : Col} {w w' : World} {a k : Nat} (h : Step (Hi a k) c w c' w') (hk : ∀ b, c b < k) : Step (One a) c w c' w' :=
  h.drop fun b _ e => e.elim id fun x => absurd x (by have := hk b; omega)
theorem Step.hi {c c' c'' : Col} {w w' w'' : World} {a k x : Nat} (h : Step (Hi a k) c w c' w') (h2 : Step (One x) c' w' c'' w'') (hx : Hi a k x) : Step (Hi a k) c w c'' w'' :=
  h.trans (h2.mono fun j (e : j = x) => by rw [e]; exact hx)
end Go.Proofs.YtgcobbapaaihiaaGreat

set_option linter.unusedVariables false
set_option linter.unusedSimpArgs false
namespace Go.Proofs.YtgcobbapaaihiaaGreat
open Go.RowKit

/-- The table, and its digits. -/
def rowsB : ByteArray := ⟨#[48, 49, 50, 51, 52, 53, 54, 55, 56, 57, 97, 98, 99, 100, 101, 102, 101, 97, 52, 56, 57, 102, 100, 54, 49, 99, 48, 50, 98, 55, 53, 51, 98, 56, 99, 48, 53, 50, 102, 100, 97, 101, 51, 54, 55, 49, 57, 52, 55, 57, 51, 49, 100, 99, 98, 101, 50, 54, 53, 97, 52, 48, 102, 56, 57, 48, 53, 55, 50, 52, 97, 102, 101, 49, 98, 99, 54, 56, 51, 100, 50, 99, 54, 97, 48, 98, 56, 51, 52, 100, 55, 53, 102, 101, 49, 57, 99, 53, 49, 102, 101, 100, 52, 97, 48, 55, 54, 51, 57, 50, 56, 98, 100, 98, 55, 101, 99, 49, 51, 57, 53, 48, 102, 52, 56, 54, 50, 97, 54, 102, 101, 57, 98, 51, 48, 56, 99, 50, 100, 55, 49, 52, 97, 53, 97, 50, 56, 52, 55, 54, 49, 53, 102, 98, 57, 101, 51, 99, 100, 48]⟩
def digB : ByteArray := ⟨#[48, 49, 50, 51, 52, 53, 54, 55, 56, 57, 97, 98, 99, 100, 101, 102]⟩
theorem rows_all : ((List.range 160).all fun p => decide ((rowsB.data.getD p 0).toNat < 128) && decide (0 ≤ Go.Lib.indexByte digB.data.toList (rowsB.data.getD p 0).toNat.toUInt8) && decide (Go.Lib.indexByte digB.data.toList (rowsB.data.getD p 0).toNat.toUInt8 < 16)) = true := by kernel_rfl
theorem rows_ok (p : Nat) (h : p < rowsB.size) : (rowsB[p]'h).toNat < 128 ∧ ∃ j : Nat, j < 16 ∧ Go.Lib.indexByte digB.data.toList (((rowsB[p]'h).toNat : Int)).toNat.toUInt8 = (j : Int) := by
  have hp : p < 160 := h
  have := List.all_eq_true.1 rows_all p (by simpa using hp)
  have hg : rowsB.data.getD p 0 = rowsB[p]'h := by
    have : rowsB.data.getD p 0 = rowsB.data[p]'h := by simp only [Array.getD]; exact dif_pos h
    rw [this]; rfl
  rw [hg] at this
  simp only [Bool.and_eq_true, decide_eq_true_eq] at this
  refine ⟨this.1.1, (Go.Lib.indexByte digB.data.toList (rowsB[p]'h).toNat.toUInt8).toNat, by omega, ?_⟩
  rw [Int.toNat_natCast]
  omega

section
variable {w : World}

theorem run_idxB (s : ByteArray) (c : Int) :
    (callFunc 221 #[.string s, .int .u8 c]).run Tryz.prog w = .ok (.value (.int .i64 (Go.Lib.indexByte s.data.toList c.toNat.toUInt8))) w := by
  have hr := Go.Lib.run_indexByteString (P := Tryz.prog) s c w
  rw [run_callFunc_extern Tryz.func221 (by kernel_rfl) (by kernel_rfl) (by kernel_rfl) (by kernel_rfl), hr]
  rfl

theorem sindex_any (s : ByteArray) (c : Int) (w : World) :
    Calls Tryz.prog 215 #[.string s, .int .u8 c] w fun r w' => r = .returned (.int .i64 (Go.Lib.indexByte s.data.toList c.toNat.toUInt8)) ∧ w' = w := by
  have hr := fun w => run_idxB (w := w) s c
  obtain ⟨r, hrr⟩ : ∃ r, Go.Lib.indexByte s.data.toList c.toNat.toUInt8 = r := ⟨_, rfl⟩
  rw [hrr] at hr ⊢
  have H : Calls Tryz.prog 220 #[.string s, .int .u8 c] w fun e w' => e = .returned (.int .i64 r) ∧ w' = w := by
    clear hrr
    go_enter Tryz.func220, Tryz.ntmps220
    go_wp2
    go_ret
    exact ⟨rfl, rfl⟩
  clear hrr hr
  go_enter Tryz.func215, Tryz.ntmps215
  go_wp2_with fail
  with_reducible refine H.mono ?_
  rintro e w' ⟨rfl, rfl⟩
  go_wp2_with fail
  go_ret
  exact ⟨rfl, rfl⟩

set_option maxRecDepth 100000 in
theorem indexRune_any (s : ByteArray) (c : Int) (h0 : 0 ≤ c) (h1 : c < 128) (w : World) :
    Calls Tryz.prog 210 #[.string s, .int .i32 c] w fun r w' => r = .returned (.int .i64 (Go.Lib.indexByte s.data.toList c.toNat.toUInt8)) ∧ w' = w := by
  have H := sindex_any s c w
  have hw : IntKind.u8.wrap c = c := IntWalk.u8_in _ (by omega)
  go_enter Tryz.func210, Tryz.ntmps210
  go_wp2_with fail
  with_reducible refine H.mono ?_
  rintro e w' ⟨rfl, rfl⟩
  go_wp2_with fail
  go_ret
  exact ⟨rfl, rfl⟩
end
end Go.Proofs.YtgcobbapaaihiaaGreat
