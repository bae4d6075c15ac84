/- ServerKnown, part 01: lemmas, each with its own conditions. -/
import Derived.Test.YtgcobbapaaihiaaGreatSk00
import Derived.Laws.IdiomStrings
import Derived.Test.YtgcobbapaaihiaaGreatProg
import Derived.Lib.AppendZeros
set_option linter.unusedVariables false
set_option linter.unusedSimpArgs false
namespace Go.Proofs.YtgcobbapaaihiaaGreat
open Go.RowKit

theorem Ty.kn {α : Type} {T : Ty α} {c c' : Col} {w w' : World} {k : Nat} {vs : List Value} {x : α} (h : T.rd c k w vs x) (hs : Step No c w c' w') : T.rd c' k w' vs x := T.keep hs (fun h => h) h
theorem Sl.kn {α : Type} {T : Ty α} {c c' : Col} {w w' : World} {k k2 : Nat} {v : Value} {l : List α} (h : Sl T c k k2 w v l) (hs : Step No c w c' w') : Sl T c' k k2 w' v l := h.keep hs (fun h => h) (fun h => h)
theorem Own.kn {α : Type} {T : Ty α} {e : TypeId} {c c' : Col} {w w' : World} {k k2 : Nat} {v : Value} {l : List α} (h : Own T e c k k2 w v l) (hs : Step No c w c' w') : Own T e c' k k2 w' v l := h.keep hs (fun h => h) (fun h => h)
theorem Step.al {c : Col} {w : World} (o : Obj) : Step No c w c (w.alloc o) := Step.refl.alloc o
theorem Step.rf {c : Col} {w : World} : Step No c w c w := Step.refl
theorem CellsAt.kn {c c' : Col} {w w' : World} (hs : Step No c w c' w') {b off : Nat} {vs : List Value} (hb : b < w.heap.size) (hc : CellsAt w b off vs) : CellsAt w' b off vs := hc.keep hs hb (fun h => h)

/-- A result built with two colours of its own is handed out in any two colours. -/
theorem Own.out2 {α : Type} {T : Ty α} {e : TypeId} {c c1 : Col} {w w1 : World} {q q2 : Nat} {v : Value} {l : List α} (h : Own T e c1 q q2 w1 v l) (hs : Step (Two q q2) c w c1 w1) (ho : Ok c1 w1) (hq : ∀ b, c b ≠ q) (hq2 : ∀ b, c b ≠ q2) (h0 : q ≠ 0) (h02 : q2 ≠ 0) (hqq : q2 ≠ q)
    (k k2 : Nat) (hkq : k ≠ q2) : ∃ c', Own T e c' k k2 w1 v l ∧ Step No c w c' w1 ∧ Ok c' w1 :=
  ⟨(c1.turn q k).turn q2 k2, (h.turn hqq).turn2 hkq, ((hs.turn (.inl rfl)).turn (.inr rfl)).own2 hq hq2, (ho.turn h0).turn h02⟩

theorem Own.out1 {α : Type} {T : Ty α} {e : TypeId} {c c1 : Col} {w w1 : World} {q k2 : Nat} {v : Value} {l : List α} (h : Own T e c1 q k2 w1 v l) (hs : Step (One q) c w c1 w1) (ho : Ok c1 w1) (hq : ∀ b, c b ≠ q) (h0 : q ≠ 0) (hqq : k2 ≠ q)
    (k : Nat) : ∃ c', Own T e c' k k2 w1 v l ∧ Step No c w c' w1 ∧ Ok c' w1 :=
  ⟨c1.turn q k, h.turn hqq, (hs.turn rfl).own hq, ho.turn h0⟩
end Go.Proofs.YtgcobbapaaihiaaGreat

set_option linter.unusedVariables false
set_option linter.unusedSimpArgs false
namespace Go.Proofs.YtgcobbapaaihiaaGreat
open Go.RowKit

theorem conv_sl {P : Program} {c : Col} {k k2 : Nat} {w : World} {v : Value} {l : List UInt8} (h : Sl TByte c k k2 w v l) (src dst e : TypeId) (hs : P.underlying src = some (.slice e)) (he : P.underlying e = some (.int .u8)) (hd : P.underlying dst = some .string) :
    (convert src dst v).run P w = .ok (.string ⟨l.toArray⟩) w := by
  rcases h with ⟨rfl, a, cap, rfl, _, hcap⟩ | ⟨b, off, cap, rfl, _, _, _, _, h5⟩
  · cases a with
    | none =>
      obtain rfl := hcap rfl
      simp [convert, run_underlying hs, run_underlying he, run_underlying hd, Conv.bytesToString, Sem.run_pure]
      rfl
    | some ad => exact run_convert_bytes_back w src dst e ad cap [] hs he hd (by intro j hj; simp at hj)
  · refine run_convert_bytes_back w src dst e ⟨b, off, none⟩ cap l hs he hd (fun j hj => ?_)
    obtain ⟨vs, rfl, hc⟩ := h5 j l[j] (by simp [hj])
    have := hc 0 _ rfl
    have hadd : (⟨b, off, none⟩ : Addr).add j = ⟨b, off + j * TByte.n + 0, none⟩ := by unfold Addr.add; split <;> simp_all [TByte]
    rw [hadd]; exact this

/-- A byte cell. -/
def ByteCell (w : World) (a : Addr) : Prop := ∃ n : Int, w.cell? a = some (.int .u8 n) ∧ 0 ≤ n ∧ n ≤ 255
/-- Whatever was a byte is one still. -/
def ByteSafe (w w' : World) : Prop := ∀ b o, ByteCell w ⟨b, o, none⟩ → ByteCell w' ⟨b, o, none⟩
theorem ByteSafe.refl (w : World) : ByteSafe w w := fun _ _ h => h
theorem ByteSafe.trans {a b c : World} (h : ByteSafe a b) (k : ByteSafe b c) : ByteSafe a c := fun x o hx => k x o (h x o hx)
theorem ByteSafe.set {w : World} {a : Addr} (ha : ByteCell w a) {n : Int} (h0 : 0 ≤ n) (h1 : n ≤ 255) : ByteSafe w (w.setCell a (.int .u8 n)) := by
  intro b o ⟨m, hm, h2, h3⟩
  by_cases e : a = ⟨b, o, none⟩
  · subst e
    exact ⟨n, World.cell?_setCell_same' _ _ _ (by rw [hm]; rfl), h0, h1⟩
  · exact ⟨m, by rw [World.cell?_setCell_other _ _ _ _ e]; exact hm, h2, h3⟩

/-- A slice whose elements are bytes, whatever they are. -/
def BytesOf (c : Col) (k : Nat) (w : World) (v : Value) (n : Nat) : Prop := ∃ l : List UInt8, l.length = n ∧ Sl TByte c k k w v l

theorem BytesOf.cell {c : Col} {k : Nat} {w : World} {b off len cap n : Nat} (h : BytesOf c k w (.slice (some ⟨b, off, none⟩) len cap) n) {j : Nat} (hj : j < n) : ByteCell w ⟨b, off + j, none⟩ ∧ c b = k := by
  obtain ⟨l, hl, h⟩ := h
  rcases h with ⟨rfl, _⟩ | ⟨b', off', cap', hv, _, _, h3, _, h5⟩
  · simp at hl; omega
  · cases hv
    obtain ⟨vs, rfl, hc⟩ := h5 j (l[j]'(by omega)) (by simp [hl, hj])
    have := hc 0 _ rfl
    simp only [TByte, Nat.mul_one, Nat.add_zero] at this
    exact ⟨⟨_, this, by omega, by have := (l[j]'(by omega)).toNat_lt; omega⟩, h3⟩

theorem BytesOf.safe {c c' : Col} {k : Nat} {w w' : World} {v : Value} {n : Nat} (h : BytesOf c k w v n) (hs : ByteSafe w w') (hz : w.heap.size ≤ w'.heap.size) (hc : ∀ b, b < w.heap.size → c b = k → c' b = k) : BytesOf c' k w' v n := by
  obtain ⟨l, hl, h⟩ := h
  rcases h with h | ⟨b, off, cap, hv, h1, h2, h3, h4, h5⟩
  · exact ⟨l, hl, .inl h⟩
  · have key : ∀ i : Nat, ∃ y : UInt8, i < l.length → w'.cell? ⟨b, off + i, none⟩ = some (.int .u8 y.toNat) := by
      intro i
      by_cases hi : i < l.length
      · obtain ⟨vs, rfl, hcl⟩ := h5 i l[i] (by simp [hi])
        have := hcl 0 _ rfl
        simp only [TByte, Nat.mul_one, Nat.add_zero] at this
        obtain ⟨m, hm, m0, m1⟩ := hs b (off + i) ⟨_, this, by omega, by have := l[i].toNat_lt; omega⟩
        refine ⟨UInt8.ofNat m.toNat, fun _ => ?_⟩
        rw [hm]
        congr 2
        simp only [UInt8.toNat_ofNat']
        omega
      · exact ⟨0, fun h => absurd h hi⟩
    obtain ⟨f, hf⟩ := Classical.axiomOfChoice key
    refine ⟨(List.range l.length).map f, by simp [hl], .inr ⟨b, off, cap, by simpa using hv, by simpa using h1, h2, hc b h4 h3, Nat.lt_of_lt_of_le h4 hz, fun i x hx => ?_⟩⟩
    have hi : i < l.length := by have := (List.getElem?_eq_some_iff.1 hx).1; simpa using this
    simp [hi] at hx
    subst hx
    refine ⟨_, rfl, ?_⟩
    intro j u hu
    have hj : j = 0 := by have := (List.getElem?_eq_some_iff.1 hu).1; simp at this; omega
    subst hj
    simp at hu; subst hu
    simp only [TByte, Nat.mul_one, Nat.add_zero]
    exact hf i hi
end Go.Proofs.YtgcobbapaaihiaaGreat

set_option linter.unusedVariables false
set_option linter.unusedSimpArgs false
namespace Go.Proofs.YtgcobbapaaihiaaGreat
open Go.RowKit

def setMany (w : World) (b o : Nat) : List Value → World
  | [] => w
  | v :: vs => setMany (w.setCell ⟨b, o, none⟩ v) b (o + 1) vs

theorem setMany_other : ∀ (vs : List Value) (w : World) (b o : Nat) (p : Addr), (p.block ≠ b ∨ p.off < o ∨ o + vs.length ≤ p.off) → (setMany w b o vs).cell? p = w.cell? p
  | [], _, _, _, _, _ => rfl
  | v :: vs, w, b, o, p, h => by
    simp only [setMany]
    rw [setMany_other vs _ b (o + 1) p (by simp only [List.length_cons] at h; omega)]
    refine World.cell?_setCell_other _ _ _ _ (fun e => ?_)
    subst e
    simp only [List.length_cons, ne_eq, not_true_eq_false, false_or] at h
    omega

theorem setMany_cells : ∀ (vs : List Value) (w : World) (b o : Nat), (∀ j, j < vs.length → (w.cell? ⟨b, o + j, none⟩).isSome = true) → CellsAt (setMany w b o vs) b o vs
  | [], _, _, _, _ => by intro j u hu; simp at hu
  | v :: vs, w, b, o, h => by
    intro j u hu
    simp only [setMany]
    cases j with
    | zero =>
      simp at hu; subst hu
      rw [setMany_other vs _ b (o + 1) _ (by simp)]
      exact World.cell?_setCell_same' _ _ _ (h 0 (by simp))
    | succ j =>
      simp at hu
      have := setMany_cells vs (w.setCell ⟨b, o, none⟩ v) b (o + 1) (fun i hi => by
        rw [World.cell?_setCell_other _ _ _ _ (by intro e; injection e with e1 e2; omega)]
        have := h (i + 1) (by simp; omega)
        rwa [show o + 1 + i = o + (i + 1) by omega]) j u hu
      rwa [show o + (j + 1) = o + 1 + j by omega]

theorem setMany_step {K : Nat → Prop} {c0 : Col} {w0 : World} {c : Col} {b : Nat} (hb : w0.heap.size ≤ b ∨ K (c0 b)) : ∀ (vs : List Value) (w : World) (o : Nat), Step K c0 w0 c w → Step K c0 w0 c (setMany w b o vs)
  | [], _, _, h => h
  | v :: vs, w, o, h => setMany_step hb vs _ _ (h.setCell (a := ⟨b, o, none⟩) hb v)

theorem setMany_ok {c : Col} {b : Nat} : ∀ (vs : List Value) (w : World) (o : Nat), Ok c w → Ok c (setMany w b o vs)
  | [], _, _, h => h
  | v :: vs, w, o, h => setMany_ok vs _ _ (h.setCell _ _)

/-- An element written over. -/
theorem Sl.put {α : Type} {T : Ty α} {c : Col} {k k2 : Nat} {w : World} {b off len cap : Nat} {l : List α} (h : Sl T c k k2 w (.slice (some ⟨b, off, none⟩) len cap) l) (hk : k2 ≠ k) {j : Nat} (hj : j < l.length) {vs : List Value} {x : α} (hr : T.rd c k2 w vs x) :
    Sl T c k k2 (setMany w b (off + j * T.n) vs) (.slice (some ⟨b, off, none⟩) len cap) (l.set j x) := by
  rcases h with ⟨rfl, _⟩ | ⟨b', off', cap', hv, h1, h2, h3, h4, h5⟩
  · simp at hj
  · cases hv
    have hst : Step (One k) c w c (setMany w b (off + j * T.n) vs) := setMany_step (.inr h3) vs w _ Step.refl
    have hvl := T.len hr
    refine .inr ⟨b, off, cap, by simp, by simpa using h1, h2, h3, Nat.lt_of_lt_of_le h4 hst.size, fun i y hy => ?_⟩
    by_cases e : i = j
    · subst e
      rw [List.getElem?_set_self hj] at hy
      cases hy
      refine ⟨vs, T.keep hst hk hr, setMany_cells vs w b _ (fun i' hi' => ?_)⟩
      obtain ⟨vs0, hr0, hc0⟩ := h5 i l[i] (by simp [hj])
      have hl0 := T.len hr0
      have := hc0 i' (vs0[i']'(by omega)) (by simp)
      rw [this]; rfl
    · rw [List.getElem?_set_ne (fun h => e h.symm)] at hy
      obtain ⟨vs0, hr0, hc0⟩ := h5 i y hy
      refine ⟨vs0, T.keep hst hk hr0, fun i' u hu => ?_⟩
      have hi' : i' < vs0.length := (List.getElem?_eq_some_iff.1 hu).1
      have hl0 := T.len hr0
      rw [setMany_other vs w b _ _ ?_]
      · exact hc0 i' u hu
      · right
        show off + i * T.n + i' < off + j * T.n ∨ off + j * T.n + vs.length ≤ off + i * T.n + i'
        rcases Nat.lt_or_gt_of_ne e with h | h
        · left
          have : (i + 1) * T.n ≤ j * T.n := Nat.mul_le_mul_right _ h
          rw [Nat.succ_mul] at this; omega
        · right
          have : (j + 1) * T.n ≤ i * T.n := Nat.mul_le_mul_right _ h
          rw [Nat.succ_mul] at this; omega

/-- What the elements lead to was changed; each still reads as something. -/
theorem Sl.change {α : Type} {T : Ty α} {K : Nat → Prop} {c c' : Col} {k k2 : Nat} {w w' : World} {v : Value} {l : List α} (h : Sl T c k k2 w v l) (hs : Step K c w c' w') (hk : ¬ K k) (hr : ∀ vs x, T.rd c k2 w vs x → ∃ x', T.rd c' k2 w' vs x') :
    ∃ l', l'.length = l.length ∧ Sl T c' k k2 w' v l' := by
  rcases h with ⟨rfl, h⟩ | ⟨b, off, cap, hv, h1, h2, h3, h4, h5⟩
  · exact ⟨[], rfl, .inl ⟨rfl, h⟩⟩
  · by_cases hl0 : l = []
    · subst hl0
      exact ⟨[], rfl, .inr ⟨b, off, cap, hv, h1, h2, (hs.col b h4 (by rw [h3]; exact hk)).trans h3, Nat.lt_of_lt_of_le h4 hs.size, by simp⟩⟩
    obtain ⟨x0, hx0⟩ : ∃ x0, l[0]? = some x0 := by cases l with | nil => exact absurd rfl hl0 | cons a t => exact ⟨a, rfl⟩
    have key : ∀ i : Nat, ∃ y : α × List Value, i < l.length → T.rd c' k2 w' y.2 y.1 ∧ CellsAt w' b (off + i * T.n) y.2 := by
      intro i
      by_cases hi : i < l.length
      · obtain ⟨vs, a1, a2⟩ := h5 i l[i] (by simp [hi])
        obtain ⟨x', hx'⟩ := hr vs _ a1
        exact ⟨(x', vs), fun _ => ⟨hx', a2.keep hs h4 (by rw [h3]; exact hk)⟩⟩
      · exact ⟨(x0, []), fun h => absurd h hi⟩
    obtain ⟨f, hf⟩ := Classical.axiomOfChoice key
    refine ⟨(List.range l.length).map (fun i => (f i).1), by simp, .inr ⟨b, off, cap, by simpa using hv, by simpa using h1, h2, (hs.col b h4 (by rw [h3]; exact hk)).trans h3, Nat.lt_of_lt_of_le h4 hs.size, fun i x hx => ?_⟩⟩
    have hi : i < l.length := by have := (List.getElem?_eq_some_iff.1 hx).1; simpa using this
    simp [hi] at hx
    subst hx
    exact ⟨(f i).2, (hf i hi).1, (hf i hi).2⟩
end Go.Proofs.YtgcobbapaaihiaaGreat

set_option linter.unusedVariables false
set_option linter.unusedSimpArgs false
namespace Go.Proofs.YtgcobbapaaihiaaGreat
open Go.RowKit

/-- A slice that is not empty: its row. -/
theorem Sl.ex {α : Type} {T : Ty α} {c : Col} {k k2 : Nat} {w : World} {v : Value} {l : List α} (h : Sl T c k k2 w v l) (hl : 0 < l.length) : ∃ b off cap, v = .slice (some ⟨b, off, none⟩) l.length cap ∧ l.length ≤ cap ∧ cap ≤ maxLen ∧ c b = k ∧ b < w.heap.size := by
  rcases h with ⟨rfl, _⟩ | ⟨b, off, cap, hv, h1, h2, h3, h4, _⟩
  · simp at hl
  · exact ⟨b, off, cap, hv, h1, h2, h3, h4⟩

/-- Values without anything behind them: n cells each, laid out by f. -/
def TPlain {α : Type} (n : Nat) (f : α → List Value) (hl : ∀ x, (f x).length = n) (h1 : ∀ x, ∀ u ∈ f x, u.oneCell' = true) : Ty α where
  n := n
  rd := fun _ _ _ vs x => vs = f x
  len := by rintro _ _ _ _ x rfl; exact hl x
  one := by rintro _ _ _ _ x rfl; exact h1 x
  keep := by rintro _ _ _ _ _ _ _ _ _ _ h; exact h
  turn := by rintro _ _ _ _ _ _ h; exact h

/-- The cells of element j. -/
theorem Sl.at {α : Type} {T : Ty α} {c : Col} {k k2 : Nat} {w : World} {g off cap len : Nat} {l : List α} (h : Sl T c k k2 w (.slice (some ⟨g, off, none⟩) len cap) l) {j : Nat} {x : α} (hj : l[j]? = some x) :
    ∃ vs, T.rd c k2 w vs x ∧ CellsAt w g (off + j * T.n) vs := by
  rcases h with ⟨rfl, _⟩ | ⟨g', off', cap', hv, h1, h2, h3, h4, h5⟩
  · simp at hj
  · cases hv; exact h5 j x hj

theorem CellsAt.get {w : World} {b off : Nat} {vs : List Value} (h : CellsAt w b off vs) (j : Nat) {u : Value} (hj : vs[j]? = some u) : w.cell? ⟨b, off + j, none⟩ = some u := h j u hj
end Go.Proofs.YtgcobbapaaihiaaGreat

set_option linter.unusedVariables false
set_option linter.unusedSimpArgs false
namespace Go.Proofs.YtgcobbapaaihiaaGreat
open Go.RowKit

theorem infoU8 : (Tryz.prog.info? 5).map (fun i => (i.zero, i.size, i.bytes)) = some (some (.int .u8 0), 1, 1) := by kernel_rfl

/-- A slice of bytes, as an element. -/
def TBs : Ty (List UInt8) where
  n := 1
  rd := fun c k w vs l => ∃ v, vs = [v] ∧ Sl TByte c k k w v l
  len := by rintro _ _ _ _ _ ⟨v, rfl, _⟩; rfl
  one := by
    rintro _ _ _ _ _ ⟨v, rfl, h⟩ u hu
    obtain ⟨a, cap, rfl, _⟩ := h.form
    simp at hu; subst hu; rfl
  keep := by
    rintro K c w c' w' k vs l hs hk ⟨v, rfl, h⟩
    exact ⟨v, rfl, h.keep hs hk hk⟩
  turn := by
    rintro c q k w vs l ⟨v, rfl, h⟩
    exact ⟨v, rfl, h.turnAll⟩

/-- A row with room, and nothing in it yet. -/
theorem Own.room {α : Type} (T : Ty α) (e : TypeId) {c : Col} {w w1 : World} (hok : Ok c w1) (hs : Step No c w c w1) (k k2 : Nat) (cur : Array Value) (cap : Nat) (hcap : cap ≤ maxLen) (hcur : cur.size = cap * T.n) :
    Own T e (c.put w1.heap.size k) k k2 (w1.alloc (.cells cur e)) (.slice (some ⟨w1.heap.size, 0, none⟩) 0 cap) [] ∧ Ok (c.put w1.heap.size k) (w1.alloc (.cells cur e)) ∧ Step No c w (c.put w1.heap.size k) (w1.alloc (.cells cur e)) := by
  have hnew : (w1.alloc (.cells cur e)).heap[w1.heap.size]? = some (.cells cur e (0, 0)) := heap_alloc_new w1 _
  refine ⟨⟨[], rfl, by simp, by simp, ⟨by simp, .inr ⟨w1.heap.size, cap, cur, rfl, Nat.zero_le _, hnew, Nat.zero_le _, hcap, hcur, by simp⟩⟩, fun b hb => by simp [Value.ownBlock] at hb; subst hb; simp⟩, (hok.alloc _).put (by simp) (fun o => by unfold World.frozen?; rw [hnew]; simp), (hs.alloc _).put (.inl hs.size)⟩

theorem zeroCells_size (n : Nat) : (Builtin.zeroCells #[Value.int .u8 0] n).size = n := by
  simp [Builtin.zeroCells]

section
variable {c : Col} {w : World}

theorem grow_any (hok : Ok c w) (n : Nat) (hn : n ≤ 1000000000) (k : Nat) :
    Calls Tryz.prog 214 #[.slice none 0 0, .int .i64 n] w fun r w' => ∃ v, r = .returned v ∧ ∃ c', Own TByte 5 c' k 0 w' v [] ∧ Step No c w c' w' ∧ Ok c' w' := by
  by_cases h0 : n = 0
  · subst h0
    go_enter Tryz.func214, Tryz.ntmps214
    go_wp2
    go_ret
    exact ⟨_, rfl, c, Own.nil _ _ _ _ _ _, Step.rf, hok⟩
  · obtain ⟨i, hi, hz, hs1, hb1⟩ := info_parts infoU8
    have hp : 0 < n := by omega
    have hi0 : ¬ (n : Int) < 0 := by omega
    have hi1 : (0 : Int) < (n : Int) := by omega
    have hw : IntKind.i64.wrap ((n : Int) - 0) = (n : Int) := by rw [Int.sub_zero]; exact IntWalk.i64_in _ (by omega)
    have hr := fun W => Go.Lib.run_append_nil_zeros (P := Tryz.prog) W 26 3 26 5 i (.int .u8 0) .i64 .i64 Tryz.underlying26 Tryz.underlying3 hi hz n hp (by omega) (by omega) (by rw [hb1]; omega)
    go_enter Tryz.func214, Tryz.ntmps214
    go_wp2_with (at_builtin; refine Go.Lib.wpList_append_run _ rfl _ _ 26 3 rfl _ _ rfl rfl _ _ (hr w) ?_)
    go_ret
    have hcap := grownCap_le_maxLen w n 0 5 (by simp only [maxLen]; omega)
    have hge := grownCap_ge w n 0 5
    obtain ⟨o1, o2, o3⟩ := Own.room TByte 5 hok Step.rf k 0 (Builtin.zeroCells #[Value.int .u8 0] n ++ Builtin.zeroCells #[Value.int .u8 0] (grownCap w n 0 5 - n)) (grownCap w n 0 5) hcap (by rw [Array.size_append, zeroCells_size, zeroCells_size]; show _ = _ * 1; omega)
    exact ⟨_, rfl, _, o1.kn Step.rf.drew, o3.drew, o2.drew⟩

theorem flat_succ {ls : List (List UInt8)} {j : Nat} {x : List UInt8} (h : ls[j]? = some x) : (ls.take (j + 1)).flatten = (ls.take j).flatten ++ x := by
  rw [List.take_add_one, h]; simp

theorem flat_le (ls : List (List UInt8)) (j : Nat) : (ls.take j).flatten.length ≤ ls.flatten.length := by
  have : ls.flatten = (ls.take j).flatten ++ (ls.drop j).flatten := by rw [← List.flatten_append, List.take_append_drop]
  rw [this, List.length_append]; omega

set_option maxHeartbeats 800000 in
theorem concat_any (hok : Ok c w) {kx : Nat} {v : Value} {ls : List (List UInt8)} (h : Sl TBs c kx 0 w v ls) (hl : 0 < ls.length) (hn : ls.length ≤ 1000) (ht : ls.flatten.length ≤ 1000000000) (k : Nat) :
    Calls Tryz.prog 209 #[v] w fun r w' => ∃ v', r = .returned v' ∧ ∃ c', Own TByte 5 c' k 0 w' v' ls.flatten ∧ Step No c w c' w' ∧ Ok c' w' := by
  obtain ⟨q, hq, hqc⟩ := hok.spare kx
  obtain ⟨g, off, cap, rfl, _⟩ := h.ex hl
  obtain ⟨tot, htot⟩ : ∃ n, ls.flatten.length = n := ⟨_, rfl⟩
  rw [htot] at ht
  have G := grow_any hok tot ht q
  have hq0 : q ≠ 0 := by omega
  have HQ := Lib.hid hqc
  have hok' := Lib.hid hok
  clear hqc hok
  go_enter Tryz.func209, Tryz.ntmps209
  go_wp2
  go_loopw [3, 11] (fun s i wr => ∃ (j : Nat), j ≤ ls.length ∧ i = .int .i64 j ∧ s = .int .i64 ((ls.take j).flatten.length : Nat) ∧ w = wr) (fun _ i _ => ls.length - (intOf i).toNat)
  case atStart => exact ⟨0, Nat.zero_le _, rfl, by simp, rfl⟩
  case round =>
    obtain ⟨j, hj, rfl, rfl, rfl⟩ := hrel
    by_cases hlt : j < ls.length
    · obtain ⟨x, hx⟩ : ∃ x, ls[j]? = some x := ⟨ls[j], by simp [hlt]⟩
      obtain ⟨vs, ⟨vj, rfl, hvj⟩, hcs⟩ := h.at hx
      obtain ⟨a, n, rfl, _⟩ := hvj.form
      have y0 := hcs.get 0 rfl
      have hle := flat_le ls (j + 1)
      rw [htot] at hle
      have hsum : ((ls.take (j + 1)).flatten.length : Int) = ((ls.take j).flatten.length : Nat) + (x.length : Int) := by rw [flat_succ hx, List.length_append]; push_cast; rfl
      obtain ⟨m, hm⟩ : ∃ m, (ls.take j).flatten.length = m := ⟨_, rfl⟩
      obtain ⟨m', hm'⟩ : ∃ m, (ls.take (j + 1)).flatten.length = m := ⟨_, rfl⟩
      rw [hm'] at hle
      rw [hm', hm] at hsum
      rw [hm]
      have hj0 : (0 : Int) ≤ (j : Int) := by omega
      have hj1 : (j : Int) < (ls.length : Int) := by omega
      have hw : IntKind.i64.wrap ((m : Int) + (x.length : Int)) = (m' : Int) := by rw [← hsum]; exact IntWalk.i64_in _ (by omega)
      have hneg : ¬ (m' : Int) < 0 := by omega
      have HM := Lib.hid hm'
      simp only [TBs, Nat.mul_one, Nat.add_zero] at y0
      clear h hcs hvj hx hm hm' hsum
      go_wp2_with fail
      go_roundw
      case rel => exact ⟨j + 1, by omega, by go_num, by rw [HM.out], trivial⟩
      case measure => simp [intOf]; omega
    · have hjl : j = ls.length := by omega
      subst hjl
      rw [List.take_length, htot]
      have Hh := Lib.hid (And.intro h htot)
      clear h htot
      go_wp2_with fail
      with_reducible refine G.mono ?_
      rintro e w1 ⟨v1, rfl, c1, p1, s1, o1⟩
      obtain ⟨va1, vc1, rfl, _⟩ := p1.sl.form
      have P0 := Lib.hid (And.intro p1 (And.intro s1 o1))
      clear p1 s1 o1 G
      go_wp2_with fail
      go_loopw [6, 27] (fun vb i wr => ∃ (j : Nat) (cr : Col), j ≤ ls.length ∧ i = .int .i64 j ∧ Own TByte 5 cr q 0 wr vb (ls.take j).flatten ∧ Step (One q) c w cr wr ∧ Ok cr wr) (fun _ i _ => ls.length - (intOf i).toNat)
      case atStart => exact ⟨0, c1, Nat.zero_le _, rfl, by simpa using P0.out.1, P0.out.2.1.ofNo, P0.out.2.2⟩
      case round =>
        obtain ⟨j, cr, hj2, rfl, ow, st, ok⟩ := hrel
        clear hj
        by_cases hlt2 : j < ls.length
        · obtain ⟨x, hx⟩ : ∃ x, ls[j]? = some x := ⟨ls[j], by simp [hlt2]⟩
          have h1 := Hh.out.1.keep st (show ¬ kx = q by omega) (show ¬ 0 = q by omega)
          obtain ⟨vs, ⟨vj, rfl, hvj⟩, hcs⟩ := h1.at hx
          have y0 := hcs.get 0 rfl
          simp only [TBs, Nat.mul_one, Nat.add_zero] at y0
          obtain ⟨va, vc, rfl, _⟩ := ow.sl.form
          have hle := flat_le ls (j + 1)
          rw [Hh.out.2, flat_succ hx] at hle
          have hn1 : (ls.take j).flatten.length + x.length ≤ maxLen := by rw [List.length_append] at hle; simp only [maxLen]; omega
          have hn2 : ((ls.take j).flatten.length + x.length) * 1 ≤ 140737488355328 := by rw [List.length_append] at hle; omega
          have hq1 : (0 : Nat) ≠ q := by omega
          have hj0 : (0 : Int) ≤ (j : Int) := by omega
          have hj1 : (j : Int) < (ls.length : Int) := by omega
          have HX := Lib.hid (And.intro hx st)
          obtain ⟨pre, hpre⟩ : ∃ l, (ls.take j).flatten = l := ⟨_, rfl⟩
          have HP := Lib.hid hpre
          rw [hpre] at ow hn1 hn2 ⊢
          clear h1 hcs hx st hle hpre
          go_wp2_with (at_builtin; refine wpList_app TByte ok rfl _ _ 26 rfl 5 Tryz.underlying26 infoU8 rfl (by decide) rfl rfl ow hvj hq1 hn1 hn2 ?_; rintro v6 w6 c6 b1 b2 b3 -; have B := Lib.hid (And.intro b1 (And.intro b2 b3)); clear b1 b2 b3 ow hvj ok)
          go_roundw
          case rel =>
            obtain ⟨b1, b2, b3⟩ := B.out
            exact ⟨j + 1, c6, by omega, by go_num, by rw [flat_succ HX.out.1, HP.out]; exact b1, HX.out.2.trans b2, b3⟩
          case measure => simp [intOf]; omega
        · have hjl : j = ls.length := by omega
          subst hjl
          rw [List.take_length] at ow
          have B := Lib.hid (And.intro ow (And.intro st ok))
          clear ow st ok
          go_wp2_with fail
          go_ret
          obtain ⟨ow, st, ok⟩ := B.out
          exact ⟨_, rfl, Own.out1 ow st ok HQ.out (by omega) (by omega) k⟩
end
end Go.Proofs.YtgcobbapaaihiaaGreat
