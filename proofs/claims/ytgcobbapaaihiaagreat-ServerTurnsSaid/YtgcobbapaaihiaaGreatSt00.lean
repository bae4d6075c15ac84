/- ServerTurns, part 00: lemmas, each with its own conditions. -/
import Derived.WalkKit
import Derived.WalkSpells
import Derived.WalkLawsBesides
import Derived.Lib.Hide
import Derived.Laws.AppendOwnNone
set_option linter.unusedVariables false
set_option linter.unusedSimpArgs false
namespace Go.Proofs.YtgcobbapaaihiaaGreat
open Go.RowKit

/-- Whose a block is: 0: nobody's (it is never written any more), else the number of an owner. -/
abbrev Col := Nat → Nat

structure Ok (c : Col) (w : World) : Prop where
  fresh : ∀ b, w.heap.size ≤ b → c b = 0
  soft : ∀ b o, c b ≠ 0 → w.frozen? ⟨b, o, none⟩ = false

/-- From w to w' at most blocks of the colours K were written, and new ones made. -/
structure Step (K : Nat → Prop) (c : Col) (w : World) (c' : Col) (w' : World) : Prop where
  os : w'.os = w.os
  tape : w'.tape = w.tape
  output : w'.output = w.output
  size : w.heap.size ≤ w'.heap.size
  block : ∀ b, b < w.heap.size → ¬ K (c b) → w'.heap[b]? = w.heap[b]?
  col : ∀ b, b < w.heap.size → ¬ K (c b) → c' b = c b

/-- No colour. -/
def No : Nat → Prop := fun _ => False
/-- One colour, two colours. -/
def One (k : Nat) : Nat → Prop := fun j => j = k
def Two (k k2 : Nat) : Nat → Prop := fun j => j = k ∨ j = k2

section
variable {K K' : Nat → Prop} {c c' c'' : Col} {w w' w'' : World}

theorem Step.refl : Step K c w c w := ⟨rfl, rfl, rfl, Nat.le_refl _, fun _ _ _ => rfl, fun _ _ _ => rfl⟩

theorem Step.trans (h : Step K c w c' w') (h' : Step K c' w' c'' w'') : Step K c w c'' w'' :=
  ⟨h'.os.trans h.os, h'.tape.trans h.tape, h'.output.trans h.output, Nat.le_trans h.size h'.size,
   fun b hb hk => (h'.block b (Nat.lt_of_lt_of_le hb h.size) (by rw [h.col b hb hk]; exact hk)).trans (h.block b hb hk),
   fun b hb hk => (h'.col b (Nat.lt_of_lt_of_le hb h.size) (by rw [h.col b hb hk]; exact hk)).trans (h.col b hb hk)⟩

theorem Step.mono (h : Step K c w c' w') (hk : ∀ j, K j → K' j) : Step K' c w c' w' :=
  ⟨h.os, h.tape, h.output, h.size, fun b hb hn => h.block b hb fun x => hn (hk _ x), fun b hb hn => h.col b hb fun x => hn (hk _ x)⟩

theorem Step.ofNo (h : Step No c w c' w') : Step K c w c' w' := h.mono fun _ x => x.elim

/-- Colours that no old block has do not count. -/
theorem Step.drop (h : Step K c w c' w') (hk : ∀ b, b < w.heap.size → K (c b) → K' (c b)) : Step K' c w c' w' :=
  ⟨h.os, h.tape, h.output, h.size, fun b hb hn => h.block b hb fun x => hn (hk _ hb x), fun b hb hn => h.col b hb fun x => hn (hk _ hb x)⟩

theorem Step.below (h : Step K c w c' w') (hk : ∀ b, b < w.heap.size → ¬ K (c b)) : Below w.heap.size w w' :=
  ⟨h.os, h.tape, h.output, h.size, fun b hb => h.block b hb (hk b hb)⟩

theorem Step.cell (h : Step K c w c' w') {b o : Nat} (hb : b < w.heap.size) (hk : ¬ K (c b)) : w'.cell? ⟨b, o, none⟩ = w.cell? ⟨b, o, none⟩ :=
  World.cell?_of_block (w := w) (h.block b hb hk)

theorem Step.frozen (h : Step K c w c' w') {b o : Nat} (hb : b < w.heap.size) (hk : ¬ K (c b)) : w'.frozen? ⟨b, o, none⟩ = w.frozen? ⟨b, o, none⟩ :=
  World.frozen?_of_block (w := w) (h.block b hb hk)

theorem Step.ofBelow (h : Below w.heap.size w w') : Step K c w c w' :=
  ⟨h.os, h.tape, h.output, h.size, fun b hb _ => h.block b hb, fun _ _ _ => rfl⟩

theorem Ok.ofBelow (h : Ok c w) (hb : Below w.heap.size w w') : Ok c w' :=
  ⟨fun b hs => h.fresh b (Nat.le_trans hb.size hs), fun b o hc => by
    have hlt : b < w.heap.size := Nat.lt_of_not_le fun hx => hc (h.fresh b hx)
    rw [World.frozen?_of_block (w := w) (a := ⟨b, o, none⟩) (hb.block b hlt)]; exact h.soft b o hc⟩

theorem Ok.lt (h : Ok c w) {b : Nat} (hb : c b ≠ 0) : b < w.heap.size := Nat.lt_of_not_le fun hx => hb (h.fresh b hx)

theorem Ok.zero (w : World) : Ok (fun _ => 0) w := ⟨fun _ _ => rfl, fun _ _ h => (h rfl).elim⟩

theorem Ok.drew (h : Ok c w) : Ok c w.drew := ⟨h.fresh, h.soft⟩
theorem Step.drew (h : Step K c w c' w') : Step K c w c' w'.drew := ⟨h.os, h.tape, h.output, h.size, h.block, h.col⟩

theorem Ok.drewN (h : Ok c w) (n : Nat) : Ok c (w.drewN n) := ⟨h.fresh, h.soft⟩
theorem Step.drewN (h : Step K c w c' w') (n : Nat) : Step K c w c' (w'.drewN n) := ⟨h.os, h.tape, h.output, h.size, h.block, h.col⟩

theorem size_setCell (w : World) (a : Addr) (v : Value) : (w.setCell a v).heap.size = w.heap.size := by simp [World.setCell]

theorem frozen?_setCell' (w : World) (a : Addr) (v : Value) (p : Addr) : (w.setCell a v).frozen? p = w.frozen? p := by
  by_cases h : p.block = a.block
  · simp only [World.frozen?, World.setCell, Array.getElem?_modify, h, if_true]
    cases w.heap[a.block]? with
    | none => rfl
    | some o => cases o <;> rfl
  · simp only [World.frozen?, World.setCell, Array.getElem?_modify]
    rw [if_neg (fun e => h e.symm)]

theorem Ok.setCell (h : Ok c w) (a : Addr) (v : Value) : Ok c (w.setCell a v) :=
  ⟨fun b hb => h.fresh b (by rw [size_setCell] at hb; exact hb), fun b o hc => by rw [frozen?_setCell']; exact h.soft b o hc⟩

theorem Ok.alloc (h : Ok c w) (o : Obj) : Ok c (w.alloc o) := h.ofBelow ((Below.refl _ _).alloc (Nat.le_refl _) o)

theorem Step.alloc (h : Step K c w c' w') (o : Obj) : Step K c w c' (w'.alloc o) :=
  ⟨h.os, h.tape, h.output, Nat.le_trans h.size (by simp), fun b hb hk => (Below.heap_alloc _ _ _ (Nat.lt_of_lt_of_le hb h.size)).trans (h.block b hb hk), h.col⟩

/-- A store into a block that is new, or of a colour of K. -/
theorem Step.setCell (h : Step K c w c' w') {a : Addr} (ha : w.heap.size ≤ a.block ∨ K (c a.block)) (v : Value) : Step K c w c' (w'.setCell a v) :=
  ⟨h.os, h.tape, h.output, Nat.le_trans h.size (by rw [size_setCell]; exact Nat.le_refl _), fun b hb hk => by
    have hne : b ≠ a.block := by rintro rfl; rcases ha with ha | ha; · omega
                                 · exact hk ha
    rw [Below.heap_setCell _ _ _ _ hne]; exact h.block b hb hk, h.col⟩

/-- A colour for one block. -/
def Col.put (c : Col) (b k : Nat) : Col := fun j => if j = b then k else c j
@[simp] theorem Col.put_same (c : Col) (b k : Nat) : c.put b k b = k := by simp [Col.put]
theorem Col.put_other (c : Col) {b j : Nat} (k : Nat) (h : j ≠ b) : c.put b k j = c j := by simp [Col.put, h]

theorem Ok.put (h : Ok c w) {b k : Nat} (hb : b < w.heap.size) (hf : ∀ o, w.frozen? ⟨b, o, none⟩ = false) : Ok (c.put b k) w :=
  ⟨fun j hj => by rw [Col.put_other _ _ (by omega)]; exact h.fresh j hj, fun j o hc => by
    by_cases e : j = b
    · subst e; exact hf o
    · rw [Col.put_other _ _ e] at hc; exact h.soft j o hc⟩

theorem Step.put (h : Step K c w c' w') {b k : Nat} (hb : w.heap.size ≤ b ∨ K (c b)) : Step K c w (c'.put b k) w' :=
  ⟨h.os, h.tape, h.output, h.size, h.block, fun j hj hk => by
    rw [Col.put_other _ _ (by rintro rfl; rcases hb with hb | hb; · omega
                              · exact hk hb)]; exact h.col j hj hk⟩

/-- There is a colour that no block has, above any given one. -/
theorem Ok.spare (h : Ok c w) (n : Nat) : ∃ k, n < k ∧ ∀ b, c b ≠ k := by
  have hm : ∀ m, ∃ u, ∀ b, b < m → c b ≤ u := by
    intro m
    induction m with
    | zero => exact ⟨0, fun b hb => absurd hb (Nat.not_lt_zero b)⟩
    | succ m ih =>
      obtain ⟨u, hu⟩ := ih
      refine ⟨max u (c m), fun b hb => ?_⟩
      by_cases e : b = m
      · subst e; exact Nat.le_max_right _ _
      · exact Nat.le_trans (hu b (by omega)) (Nat.le_max_left _ _)
  obtain ⟨u, hu⟩ := hm w.heap.size
  refine ⟨max u n + 1, by omega, fun b e => ?_⟩
  by_cases hb : b < w.heap.size
  · have := hu b hb; omega
  · have := h.fresh b (by omega); omega
end

/-! ### A colour turned into another -/
def Col.turn (c : Col) (q k : Nat) : Col := fun b => if c b = q then k else c b

theorem Ok.turn {c : Col} {w : World} (h : Ok c w) {q k : Nat} (hq : q ≠ 0) : Ok (c.turn q k) w :=
  ⟨fun b hb => by have := h.fresh b hb; simp only [Col.turn, this]; rw [if_neg (fun e => hq e.symm)],
   fun b o hc => h.soft b o (fun e => hc (by simp only [Col.turn, e]; rw [if_neg (fun e => hq e.symm)]))⟩

theorem Step.turn {K : Nat → Prop} {c c' : Col} {w w' : World} (h : Step K c w c' w') {q k : Nat} (hq : K q) : Step K c w (c'.turn q k) w' :=
  ⟨h.os, h.tape, h.output, h.size, h.block, fun b hb hk => by
    have := h.col b hb hk
    simp only [Col.turn, this]
    rw [if_neg (fun e => hk (by rw [e]; exact hq))]⟩

/-! ### Readings -/

/-- How an element of a slice, of n cells, is read; k: the colour of all blocks that the reading meets. -/
structure Ty (α : Type) where
  n : Nat
  rd : Col → Nat → World → List Value → α → Prop
  len : ∀ {c k w vs x}, rd c k w vs x → vs.length = n
  one : ∀ {c k w vs x}, rd c k w vs x → ∀ u ∈ vs, u.oneCell' = true
  keep : ∀ {K c w c' w' k vs x}, Step K c w c' w' → ¬ K k → rd c k w vs x → rd c' k w' vs x
  turn : ∀ {c q k w vs x}, rd c q w vs x → rd (Col.turn c q k) k w vs x

/-- The cells of one row of values. -/
def CellsAt (w : World) (b off : Nat) (vs : List Value) : Prop := ∀ j u, vs[j]? = some u → w.cell? ⟨b, off + j, none⟩ = some u

/-- A slice reads as a list: its row has the colour k, what its elements lead to has the colour k2. -/
def Sl {α : Type} (T : Ty α) (c : Col) (k k2 : Nat) (w : World) (v : Value) (l : List α) : Prop :=
  (l = [] ∧ ∃ a cap, v = .slice a 0 cap ∧ cap ≤ maxLen ∧ (a = none → cap = 0)) ∨
  ∃ b off cap, v = .slice (some ⟨b, off, none⟩) l.length cap ∧ l.length ≤ cap ∧ cap ≤ maxLen ∧ c b = k ∧ b < w.heap.size ∧
    ∀ (i : Nat) x, l[i]? = some x → ∃ vs, T.rd c k2 w vs x ∧ CellsAt w b (off + i * T.n) vs

theorem Sl.nil {α : Type} (T : Ty α) (c : Col) (k k2 : Nat) (w : World) : Sl T c k k2 w (.slice none 0 0) [] := .inl ⟨rfl, none, 0, rfl, Nat.zero_le _, fun _ => rfl⟩

theorem CellsAt.keep {K c w c' w'} (h : Step K c w c' w') {b off : Nat} {vs : List Value} (hb : b < w.heap.size) (hk : ¬ K (c b)) (hc : CellsAt w b off vs) : CellsAt w' b off vs :=
  fun j u hu => (h.cell hb hk).trans (hc j u hu)

theorem Sl.keep {α : Type} {T : Ty α} {K c w c' w' k k2 v} {l : List α} (h : Sl T c k k2 w v l) (hs : Step K c w c' w') (hk : ¬ K k) (hk2 : ¬ K k2) : Sl T c' k k2 w' v l := by
  rcases h with h | ⟨b, off, cap, hv, h1, h2, h3, h4, h5⟩
  · exact .inl h
  · subst h3
    refine .inr ⟨b, off, cap, hv, h1, h2, hs.col b h4 hk, Nat.lt_of_lt_of_le h4 hs.size, fun i x hx => ?_⟩
    obtain ⟨vs, hr, hc⟩ := h5 i x hx
    exact ⟨vs, T.keep hs hk2 hr, hc.keep hs h4 hk⟩

theorem Sl.length_le {α : Type} {T : Ty α} {c k k2 w v} {l : List α} (h : Sl T c k k2 w v l) : l.length ≤ maxLen := by
  rcases h with ⟨rfl, _⟩ | ⟨_, _, _, _, h1, h2, _⟩
  · exact Nat.zero_le _
  · omega

/-- The value of a slice that reads as l: what len() says of it. -/
theorem Sl.form {α : Type} {T : Ty α} {c k k2 w v} {l : List α} (h : Sl T c k k2 w v l) : ∃ a cap, v = .slice a l.length cap ∧ (a = none → l = [] ∧ cap = 0) := by
  rcases h with ⟨rfl, a, cap, rfl, _, h⟩ | ⟨b, off, cap, rfl, _⟩
  · exact ⟨a, cap, rfl, fun e => ⟨rfl, h e⟩⟩
  · exact ⟨_, cap, rfl, fun h => by cases h⟩

/-- int, as a number. -/
def TInt (ik : IntKind) : Ty Int where
  n := 1
  rd := fun _ _ _ vs x => vs = [.int ik x] ∧ ik.has x
  len := by rintro _ _ _ _ _ ⟨rfl, _⟩; rfl
  one := by rintro _ _ _ _ _ ⟨rfl, _⟩ u hu; simp at hu; subst hu; rfl
  keep := by rintro _ _ _ _ _ _ _ _ _ _ h; exact h
  turn := by rintro _ _ _ _ _ _ h; exact h

/-- byte. -/
def TByte : Ty UInt8 where
  n := 1
  rd := fun _ _ _ vs x => vs = [.int .u8 x.toNat]
  len := by rintro _ _ _ _ _ rfl; rfl
  one := by rintro _ _ _ _ _ rfl u hu; simp at hu; subst hu; rfl
  keep := by rintro _ _ _ _ _ _ _ _ _ _ h; exact h
  turn := by rintro _ _ _ _ _ _ h; exact h

/-! ### append -/

/-- A slice that the owner of colour k may append to: nil, or the head of a whole row of its own. -/
def Own {α : Type} (T : Ty α) (e : TypeId) (c : Col) (k k2 : Nat) (w : World) (v : Value) (l : List α) : Prop :=
  ∃ xss : List (List Value), xss.length = l.length ∧ (∀ (i : Nat) x, l[i]? = some x → ∃ vs, xss[i]? = some vs ∧ T.rd c k2 w vs x) ∧ (∀ vs ∈ xss, vs.length = T.n) ∧
    w.ownsRow 0 e T.n v l.length xss.flatten ∧ (∀ b, v.ownBlock = some b → c b = k)

theorem flatten_get {n : Nat} : ∀ (xss : List (List Value)) (_ : ∀ vs ∈ xss, vs.length = n) (i : Nat) (vs : List Value), xss[i]? = some vs → ∀ j u, vs[j]? = some u → xss.flatten[i * n + j]? = some u
  | [], _, i, vs, h => by simp at h
  | ys :: xss, hl, i, vs, h => by
    intro j u hu
    have hy := hl ys (by simp)
    cases i with
    | zero =>
      simp at h; subst h
      have hj : j < ys.length := (List.getElem?_eq_some_iff.1 hu).1
      simp only [List.flatten_cons, Nat.zero_mul, Nat.zero_add]
      rw [List.getElem?_append_left hj]; exact hu
    | succ i =>
      simp only [List.getElem?_cons_succ] at h
      have := flatten_get xss (fun v hv => hl v (by simp [hv])) i vs h j u hu
      simp only [List.flatten_cons]
      rw [List.getElem?_append_right (by rw [hy, Nat.succ_mul]; omega)]
      rw [hy, show (i + 1) * n + j - n = i * n + j by rw [Nat.succ_mul]; omega]; exact this

theorem Own.sl {α : Type} {T : Ty α} {e c k k2 w v} {l : List α} (h : Own T e c k k2 w v l) : Sl T c k k2 w v l := by
  obtain ⟨xss, hx, hrd, hlen, hown, hcol⟩ := h
  have hcells := fun (g : Nat) => World.ownsRow.cells (g := g) hown
  have hlt := hown.lt
  rcases hown.2 with ⟨rfl, hn⟩ | ⟨g, cap, cur, rfl, _, hg, hc1, hc2, _⟩
  · rw [List.eq_nil_of_length_eq_zero hn]; exact Sl.nil _ _ _ _ _
  · refine .inr ⟨g, 0, cap, rfl, hc1, hc2, hcol g rfl, (hlt g rfl).2, fun i x hi => ?_⟩
    obtain ⟨vs, hvs, hr⟩ := hrd i x hi
    refine ⟨vs, hr, fun j u hu => ?_⟩
    have := hcells g rfl (i * T.n + j) u (flatten_get xss hlen i vs hvs j u hu)
    have hadd : (⟨g, 0, none⟩ : Addr).add (i * T.n + j) = ⟨g, 0 + i * T.n + j, none⟩ := by unfold Addr.add; split <;> simp_all
    rw [hadd] at this; exact this

theorem Own.nil {α : Type} (T : Ty α) (e : TypeId) (c : Col) (k k2 : Nat) (w : World) : Own T e c k k2 w (.slice none 0 0) [] :=
  ⟨[], rfl, by simp, by simp, World.ownsRow_nil w 0 e T.n, fun b hb => by simp [Value.ownBlock] at hb⟩

theorem Own.keep {α : Type} {T : Ty α} {e K c w c' w' k k2 v} {l : List α} (h : Own T e c k k2 w v l) (hs : Step K c w c' w') (hk : ¬ K k) (hk2 : ¬ K k2) : Own T e c' k k2 w' v l := by
  obtain ⟨xss, hx, hrd, hlen, hown, hcol⟩ := h
  have hlt := hown.lt
  refine ⟨xss, hx, fun i x hi => ?_, hlen, ⟨hown.1, ?_⟩, fun b hb => ?_⟩
  · obtain ⟨vs, h1, h2⟩ := hrd i x hi; exact ⟨vs, h1, T.keep hs hk2 h2⟩
  · rcases hown.2 with h | ⟨g, cap, cur, rfl, h0, hg, hr⟩
    · exact .inl h
    · exact .inr ⟨g, cap, cur, rfl, h0, (hs.block g (hlt g rfl).2 (by rw [hcol g rfl]; exact hk)).trans hg, hr⟩
  · have := hcol b hb
    rw [hs.col b (hlt b hb).2 (by rw [this]; exact hk)]; exact this

theorem step_grownBy {c : Col} {w w' : World} {row : Option Nat} {k : Nat} (hg : w.grownBy w' row) (hr : ∀ b, row = some b → c b = k) : Step (One k) c w c w' :=
  ⟨hg.os, hg.tape, hg.output, hg.size, fun b hb hk => hg.block b hb (fun e => hk (hr b e.symm)), fun _ _ _ => rfl⟩

theorem Sl.cells {α : Type} {T : Ty α} {c : Col} {k k2 : Nat} {w : World} {b off cap : Nat} {l : List α} {len : Nat} (h : Sl T c k k2 w (.slice (some ⟨b, off, none⟩) len cap) l) :
    ∃ xss : List (List Value), xss.length = l.length ∧ (∀ (i : Nat) x, l[i]? = some x → ∃ vs, xss[i]? = some vs ∧ T.rd c k2 w vs x) ∧ (∀ vs ∈ xss, vs.length = T.n ∧ ∀ u ∈ vs, u.oneCell' = true) ∧
      ∀ (i : Nat) vs, xss[i]? = some vs → CellsAt w b (off + i * T.n) vs := by
  rcases h with ⟨rfl, _⟩ | ⟨b', off', cap', hv, h1, h2, h3, h4, h5⟩
  · exact ⟨[], rfl, by simp, by simp, by simp⟩
  · cases hv
    have hx : ∀ i : Nat, ∃ vs, i < l.length → ∃ x, l[i]? = some x ∧ T.rd c k2 w vs x ∧ CellsAt w b (off + i * T.n) vs := by
      intro i
      by_cases hi : i < l.length
      · obtain ⟨vs, hr, hc⟩ := h5 i l[i] (by simp [hi])
        exact ⟨vs, fun _ => ⟨l[i], by simp [hi], hr, hc⟩⟩
      · exact ⟨[], fun h => absurd h hi⟩
    obtain ⟨f, hf⟩ := Classical.axiomOfChoice hx
    refine ⟨(List.range l.length).map f, by simp, fun i x hi => ?_, fun vs hvs => ?_, fun i vs hi => ?_⟩
    · have hlt : i < l.length := (List.getElem?_eq_some_iff.1 hi).1
      obtain ⟨x', hx', hr, _⟩ := hf i hlt
      rw [hi] at hx'; cases hx'
      exact ⟨f i, by simp [hlt], hr⟩
    · simp only [List.mem_map, List.mem_range] at hvs
      obtain ⟨i, hlt, rfl⟩ := hvs
      obtain ⟨x', _, hr, _⟩ := hf i hlt
      exact ⟨T.len hr, T.one hr⟩
    · have hlt : i < l.length := by
        have := (List.getElem?_eq_some_iff.1 hi).1; simpa using this
      obtain ⟨x', _, hr, hc⟩ := hf i hlt
      simp [hlt] at hi
      subst hi; exact hc

theorem flatten_cells {w : World} {b off n : Nat} : ∀ (xss : List (List Value)) (_ : ∀ vs ∈ xss, vs.length = n) (o : Nat) (_ : ∀ (i : Nat) vs, xss[i]? = some vs → CellsAt w b (o + i * n) vs),
    ∀ j u, xss.flatten[j]? = some u → w.cell? ⟨b, o + j, none⟩ = some u
  | [], _, o, _ => by intro j u hu; simp at hu
  | ys :: xss, hl, o, hc => by
    intro j u hu
    have hy := hl ys (by simp)
    simp only [List.flatten_cons] at hu
    by_cases hj : j < ys.length
    · rw [List.getElem?_append_left hj] at hu
      have := hc 0 ys (by simp) j u hu
      simpa using this
    · rw [List.getElem?_append_right (by omega)] at hu
      have := flatten_cells (off := off) xss (fun v hv => hl v (by simp [hv])) (o + n) (fun i vs hi => by
        have := hc (i + 1) vs (by simpa using hi)
        rw [show o + n + i * n = o + (i + 1) * n by rw [Nat.succ_mul]; omega]; exact this) _ u hu
      rw [hy] at this
      rw [show o + j = o + n + (j - n) by omega]; exact this

theorem flatten_len {n : Nat} : ∀ (xss : List (List Value)) (_ : ∀ vs ∈ xss, vs.length = n), xss.flatten.length = xss.length * n
  | [], _ => by simp
  | ys :: xss, hl => by simp [flatten_len xss (fun v hv => hl v (by simp [hv])), hl ys (by simp), Nat.succ_mul]; omega

section
variable {P : Program}

/-- append(v, xv...): v is the owner's (colour k). -/
theorem run_app {α : Type} (T : Ty α) {c : Col} {w : World} (hok : Ok c w) (t ty e : TypeId) {z : Value} {bytes : Nat} (ht : P.underlying t = some (.slice e))
    (hi : (P.info? e).map (fun i => (i.zero, i.size, i.bytes)) = some (some z, T.n, bytes)) (hzs : z.cells.size = T.n) (hsz : 0 < T.n)
    {k k2 kx : Nat} {v xv : Value} {l m : List α} (hv : Own T e c k k2 w v l) (hx : Sl T c kx k2 w xv m) (hk : k2 ≠ k) (hlen : l.length + m.length ≤ maxLen) (hb : (l.length + m.length) * bytes ≤ 140737488355328) :
    ∃ v' w' c', (Builtin.append_ #[t, t] ty #[v, xv]).run P w = .ok v' w' ∧ Own T e c' k k2 w' v' (l ++ m) ∧ Step (One k) c w c' w' ∧ Ok c' w' ∧ (v' = .slice none 0 0 ↔ v = .slice none 0 0 ∧ m = []) := by
  obtain ⟨i, hi1, hz, hs1, hb1⟩ := info_parts hi
  obtain ⟨xss, hxl, hrd, hlens, hown, hcol⟩ := hv
  have hlt := hown.lt
  obtain ⟨mss, hml, hmrd, hm1, a, cp, hxa, hmc⟩ : ∃ mss : List (List Value), mss.length = m.length ∧ (∀ (i : Nat) x, m[i]? = some x → ∃ vs, mss[i]? = some vs ∧ T.rd c k2 w vs x) ∧ (∀ vs ∈ mss, vs.length = T.n ∧ ∀ u ∈ vs, u.oneCell' = true) ∧
      ∃ (a : Option Addr) (cp : Nat), xv = .slice a m.length cp ∧ (a = none ∧ m = [] ∧ cp = 0 ∨ ∃ ad, a = some ad ∧ ∀ j u, mss.flatten[j]? = some u → w.cell? (ad.add j) = some u) := by
    rcases hx with ⟨rfl, a, cp, rfl, _, ha⟩ | hx'
    · refine ⟨[], rfl, by simp, by simp, a, cp, rfl, ?_⟩
      cases a with
      | none => exact .inl ⟨rfl, rfl, ha rfl⟩
      | some ad => exact .inr ⟨ad, rfl, by simp⟩
    · obtain ⟨b, off, cap, rfl, hr⟩ := hx'
      obtain ⟨mss, h1, h2, h3, h4⟩ := Sl.cells (T := T) (c := c) (k := kx) (k2 := k2) (.inr ⟨b, off, cap, rfl, hr⟩)
      refine ⟨mss, h1, h2, h3, some ⟨b, off, none⟩, cap, rfl, .inr ⟨⟨b, off, none⟩, rfl, fun j u hj => ?_⟩⟩
      have := flatten_cells (off := off) mss (fun v hv => (h3 v hv).1) off h4 j u hj
      have hadd : (⟨b, off, none⟩ : Addr).add j = ⟨b, off + j, none⟩ := by unfold Addr.add; split <;> simp_all
      rw [hadd]; exact this
  subst hxa
  have hmfl : mss.flatten.length = m.length * T.n := by rw [flatten_len mss (fun v hv => (hm1 v hv).1), hml]
  have hmone : ∀ u ∈ mss.flatten, u.oneCell' = true := by
    intro u hu
    obtain ⟨vs, h1, h2⟩ := List.mem_flatten.1 hu
    exact (hm1 vs h1).2 u h2
  have fin : ∀ (v' : Value) (w' : World),
      w'.ownsRow 0 e T.n v' (l.length + m.length) (xss.flatten ++ mss.flatten) → w.grownBy w' v.ownBlock → (∀ b o, b < w.heap.size → v'.ownBlock ≠ some b → w'.frozen? ⟨b, o, none⟩ = w.frozen? ⟨b, o, none⟩) →
      (v'.ownBlock = v.ownBlock ∨ ∃ g, w.heap.size ≤ g ∧ v'.ownBlock = some g) →
      ∃ c', Own T e c' k k2 w' v' (l ++ m) ∧ Step (One k) c w c' w' ∧ Ok c' w' := by
    intro v' w' h4 h5 hfz h6
    have hst0 : Step (One k) c w c w' := step_grownBy h5 hcol
    have main : ∀ c' : Col, Step (One k) c w c' w' → (∀ b, v'.ownBlock = some b → c' b = k) → (∀ b, v'.ownBlock ≠ some b → c' b = c b) → ∃ c', Own T e c' k k2 w' v' (l ++ m) ∧ Step (One k) c w c' w' ∧ Ok c' w' := by
      intro c' hst hcc hco
      refine ⟨c', ⟨xss ++ mss, by simp [hxl, hml], fun i x hi => ?_, ?_, ?_, hcc⟩, hst, ⟨fun b hbs => ?_, fun b o hc => ?_⟩⟩
      · by_cases hil : i < l.length
        · rw [List.getElem?_append_left hil] at hi
          obtain ⟨vs, a1, a2⟩ := hrd i x hi
          exact ⟨vs, by rw [List.getElem?_append_left (by omega)]; exact a1, T.keep hst hk a2⟩
        · rw [List.getElem?_append_right (by omega)] at hi
          obtain ⟨vs, a1, a2⟩ := hmrd _ x hi
          exact ⟨vs, by rw [List.getElem?_append_right (by omega), hxl]; exact a1, T.keep hst hk a2⟩
      · intro vs hvs
        rcases List.mem_append.1 hvs with h | h
        · exact hlens vs h
        · exact (hm1 vs h).1
      · simpa using h4
      · have hne : v'.ownBlock ≠ some b := fun e => by have := (h4.lt b e).2; omega
        rw [hco b hne]; exact hok.fresh b (Nat.le_trans h5.size hbs)
      · by_cases hrow : v'.ownBlock = some b
        · rcases h4.2 with ⟨rfl, _⟩ | ⟨g, cap, cur, rfl, _, hg, _⟩
          · simp [Value.ownBlock] at hrow
          · simp [Value.ownBlock] at hrow; subst hrow
            simp [World.frozen?, hg]
        · rw [hco b hrow] at hc
          rw [hfz b o (hok.lt hc) hrow]; exact hok.soft b o hc
    rcases h6 with h6 | ⟨g, hg, h6⟩
    · exact main c hst0 (fun b hb => hcol b (by rw [← h6]; exact hb)) (fun _ _ => rfl)
    · exact main (c.put g k) (hst0.put (.inl hg)) (fun b hb => by rw [h6] at hb; cases hb; simp) (fun b hb => Col.put_other _ _ (fun e => hb (by rw [h6, e])))
  rcases hmc with ⟨rfl, rfl, rfl⟩ | ⟨ad, rfl, hcells⟩
  · have hms : mss = [] := List.eq_nil_of_length_eq_zero (by simpa using hml)
    subst hms
    have hr := run_append_owned_none (P := P) w 0 t ty e i T.n ht hi1 v l.length xss.flatten hown
    obtain ⟨c', g1, g2, g3⟩ := fin v w (by simpa using hown) (World.grownBy.refl w _) (fun _ _ _ _ => rfl) (.inl rfl)
    exact ⟨v, w, c', hr, g1, g2, g3, by simp⟩
  · have hiff : ∀ v' : Value, (v' = .slice none 0 0 ↔ v = .slice none 0 0 ∧ m.length = 0) → (v' = .slice none 0 0 ↔ v = .slice none 0 0 ∧ m = []) := fun v' h => by simpa using h
    rcases hown.2 with ⟨rfl, hl0⟩ | ⟨g, cap, cur, rfl, _, hg, hnc, hcm, hcs, htake⟩
    · have hl : l = [] := List.eq_nil_of_length_eq_zero hl0
      subst hl
      have hxs : xss = [] := List.eq_nil_of_length_eq_zero (by simpa using hxl)
      subst hxs
      by_cases hm0 : m.length = 0
      · have hmn : m = [] := List.eq_nil_of_length_eq_zero hm0
        subst hmn
        have hms : mss = [] := List.eq_nil_of_length_eq_zero (by simpa using hml)
        subst hms
        obtain ⟨v', w', hr, h1, h2, h3⟩ := run_append_own (P := P) w 0 t ty e i z T.n bytes ht hi1 hz hs1 hb1 hzs hsz _ 0 [] (World.ownsRow_nil w 0 e T.n) ad 0 cp [] (by simp) (by simp) (by simp) (by simp [maxLen]) (by simp) (Nat.zero_le _)
        have hvn : v' = .slice none 0 0 := h3.2 ⟨rfl, rfl⟩
        subst hvn
        obtain ⟨c', g1, g2, g3⟩ := fin _ w' (by simpa using h1) h2 (fun b o hb _ => World.frozen?_of_block (w := w) (a := ⟨b, o, none⟩) (h2.block b hb (by simp [Value.ownBlock]))) (.inl rfl)
        exact ⟨_, w', c', hr, g1, g2, g3, by simp⟩
      · obtain ⟨v', w', hr, h1, h2, h3⟩ := run_append_own (P := P) w w.heap.size t ty e i z T.n bytes ht hi1 hz hs1 hb1 hzs hsz _ 0 [] (World.ownsRow_nil w w.heap.size e T.n) ad m.length cp mss.flatten hmfl hcells hmone (by simpa using hlen) (by simpa using hb) (Nat.le_refl _)
        have h1' : w'.ownsRow 0 e T.n v' (0 + m.length) ([] ++ mss.flatten) := by
          refine ⟨h1.1, ?_⟩
          rcases h1.2 with h | ⟨g, cap, cur, a1, a2, a3⟩
          · exact .inl h
          · exact .inr ⟨g, cap, cur, a1, Nat.zero_le _, a3⟩
        have hnew : ∃ g, w.heap.size ≤ g ∧ v'.ownBlock = some g := by
          rcases h1.2 with h | ⟨g, cap, cur, a1, a2, a3⟩
          · omega
          · exact ⟨g, a2, by rw [a1]; rfl⟩
        obtain ⟨c', g1, g2, g3⟩ := fin v' w' (by simpa using h1') h2 (fun b o hb _ => World.frozen?_of_block (w := w) (a := ⟨b, o, none⟩) (h2.block b hb (by simp [Value.ownBlock]))) (.inr hnew)
        exact ⟨v', w', c', hr, g1, g2, g3, hiff v' h3⟩
    · by_cases hroom : l.length + m.length ≤ cap
      · obtain ⟨w', hr, h1, h2⟩ := run_append_fits (P := P) w 0 t ty e i T.n ht hi1 hs1 g l.length cap xss.flatten hown ad m.length cp mss.flatten hmfl hcells hmone hroom
        obtain ⟨c', g1, g2, g3⟩ := fin _ w' h1 h2 (fun b o hb hne => World.frozen?_of_block (w := w) (a := ⟨b, o, none⟩) (h2.block b hb (by simpa [Value.ownBlock, eq_comm] using hne))) (.inl rfl)
        exact ⟨_, w', c', hr, g1, g2, g3, by simp⟩
      · have hcl := hown.cells (g := g) rfl
        have hr := run_append_grow (P := P) w t ty e i z ht hi1 hz ⟨g, 0, none⟩ l.length cap xss.flatten (by rw [hs1]; exact hown.1) hcl ad m.length cp mss.flatten (by rw [hs1]; exact hmfl) hcells (by omega) (by simp only [maxLen] at hlen; omega) (growslice_fits (by omega) (by rw [hb1]; exact hb))
        obtain ⟨v', w', hr', h1, h2, h3⟩ := run_append_own (P := P) w 0 t ty e i z T.n bytes ht hi1 hz hs1 hb1 hzs hsz _ l.length xss.flatten hown ad m.length cp mss.flatten hmfl hcells hmone hlen hb (Nat.zero_le _)
        rw [hr] at hr'
        injection hr' with e1 e2
        subst e1; subst e2
        obtain ⟨c', g1, g2, g3⟩ := fin _ _ h1 h2 (fun b o hb _ => World.frozen?_of_block (w := w) (a := ⟨b, o, none⟩) (Below.heap_alloc w.drew _ b hb)) (.inr ⟨_, Nat.le_refl _, rfl⟩)
        exact ⟨_, _, c', hr, g1, g2, g3, by simp⟩

/-- The same, in a walk. -/
theorem wp_app {α : Type} (T : Ty α) {c : Col} {w : World} (hok : Ok c w) {o : Oper} {a : Act} {K : Act → World → Prop} {Q : Exit → Act → World → Prop} (s x : Operand) (t : TypeId)
    (ho : o.op = .call { callee := .builtin .append, args := #[s, x], argTypes := #[t, t] }) (e : TypeId) {z : Value} {bytes : Nat} (ht : P.underlying t = some (.slice e))
    (hi : (P.info? e).map (fun i => (i.zero, i.size, i.bytes)) = some (some z, T.n, bytes)) (hzs : z.cells.size = T.n) (hsz : 0 < T.n)
    {k k2 kx : Nat} {v xv : Value} {l m : List α} (hs : a.eval s = v) (hxe : a.eval x = xv) (hv : Own T e c k k2 w v l) (hx : Sl T c kx k2 w xv m) (hk : k2 ≠ k) (hlen : l.length + m.length ≤ maxLen) (hb : (l.length + m.length) * bytes ≤ 140737488355328)
    (h : ∀ v' w' c', Own T e c' k k2 w' v' (l ++ m) → Step (One k) c w c' w' → Ok c' w' → (v' = .slice none 0 0 ↔ v = .slice none 0 0 ∧ m = []) → K (a.put o.dst v') w') : o.wp P a w K Q := by
  obtain ⟨v', w', c', hr, h1, h2, h3, h4⟩ := run_app (P := P) T hok t o.type e ht hi hzs hsz hv hx hk hlen hb
  unfold Oper.wp execOp
  simp only [ho, resolve, invoke, builtin, Sem.run_bind, Sem.run_pure, Result.andThen_ok, List.map_toArray, List.map_cons, List.map_nil, hs, hxe, hr]
  exact h v' w' c' h1 h2 h3 h4

theorem wpList_app {α : Type} (T : Ty α) {c : Col} {w : World} (hok : Ok c w) {ops : Array Oper} {rest : List Oper} {o : Oper} {a : Act} {Q : Exit → Act → World → Prop} (hgd : o.guard = none) (s x : Operand) (t : TypeId)
    (ho : o.op = .call { callee := .builtin .append, args := #[s, x], argTypes := #[t, t] }) (e : TypeId) {z : Value} {bytes : Nat} (ht : P.underlying t = some (.slice e))
    (hi : (P.info? e).map (fun i => (i.zero, i.size, i.bytes)) = some (some z, T.n, bytes)) (hzs : z.cells.size = T.n) (hsz : 0 < T.n)
    {k k2 kx : Nat} {v xv : Value} {l m : List α} (hs : a.eval s = v) (hxe : a.eval x = xv) (hv : Own T e c k k2 w v l) (hx : Sl T c kx k2 w xv m) (hk : k2 ≠ k) (hlen : l.length + m.length ≤ maxLen) (hb : (l.length + m.length) * bytes ≤ 140737488355328)
    (h : ∀ v' w' c', Own T e c' k k2 w' v' (l ++ m) → Step (One k) c w c' w' → Ok c' w' → (v' = .slice none 0 0 ↔ v = .slice none 0 0 ∧ m = []) → wpList P ops Q rest (a.put o.dst v') w') : wpList P ops Q (o :: rest) a w :=
  wpList_plain hgd fun _ hK => wp_app T hok s x t ho e ht hi hzs hsz hs hxe hv hx hk hlen hb fun v' w' c' h1 h2 h3 h4 => hK _ _ (h v' w' c' h1 h2 h3 h4)

/-- The same, as a step of a region that draws its order. -/
theorem step_app {α : Type} (T : Ty α) {c : Col} {w : World} (hok : Ok c w) {ops : Array Oper} {o : Oper} {a : Act} {K : Act → World → Prop} {Q : Exit → Act → World → Prop} {E : Prop} (hgd : o.guard = none) (s x : Operand) (t : TypeId)
    (ho : o.op = .call { callee := .builtin .append, args := #[s, x], argTypes := #[t, t] }) (e : TypeId) {z : Value} {bytes : Nat} (ht : P.underlying t = some (.slice e))
    (hi : (P.info? e).map (fun i => (i.zero, i.size, i.bytes)) = some (some z, T.n, bytes)) (hzs : z.cells.size = T.n) (hsz : 0 < T.n)
    {k k2 kx : Nat} {v xv : Value} {l m : List α} (hs : a.eval s = v) (hxe : a.eval x = xv) (hv : Own T e c k k2 w v l) (hx : Sl T c kx k2 w xv m) (hk : k2 ≠ k) (hlen : l.length + m.length ≤ maxLen) (hb : (l.length + m.length) * bytes ≤ 140737488355328)
    (h : ∀ v' w' c', Own T e c' k k2 w' v' (l ++ m) → Step (One k) c w c' w' → Ok c' w' → (v' = .slice none 0 0 ↔ v = .slice none 0 0 ∧ m = []) → K (a.put o.dst v') w') :
    if Region.wanted o (yielded ops a.tmps) = true then Oper.wp P o a w K Q else E := by
  rw [if_pos (by simp [Region.wanted, hgd])]
  exact wp_app T hok s x t ho e ht hi hzs hsz hs hxe hv hx hk hlen hb h
end

theorem Sl.single {α : Type} {T : Ty α} {c : Col} {k k2 : Nat} {w : World} {b off cap : Nat} {vs : List Value} {x : α} (hr : T.rd c k2 w vs x) (hc : CellsAt w b off vs) (hb : b < w.heap.size) (hk : c b = k) (hcap : 1 ≤ cap) (hm : cap ≤ maxLen) : Sl T c k k2 w (.slice (some ⟨b, off, none⟩) 1 cap) [x] :=
  .inr ⟨b, off, cap, rfl, hcap, hm, hk, hb, fun i y hi => by
    have h0 : i = 0 := by
      have := (List.getElem?_eq_some_iff.1 hi).1; simp at this; omega
    subst h0
    simp at hi; subst hi
    exact ⟨vs, hr, by simpa using hc⟩⟩

theorem cellsAt_new (w : World) (vs : List Value) (e : TypeId) (fz : Nat × Nat) : CellsAt (w.alloc (.cells vs.toArray e fz)) w.heap.size 0 vs := by
  intro j u hu
  have : (w.alloc (.cells vs.toArray e fz)).heap[w.heap.size]? = some (.cells vs.toArray e fz) := heap_alloc_new w _
  unfold World.cell?
  rw [this]
  simpa using hu

/-! ### Turning -/
theorem Sl.turn {α : Type} {T : Ty α} {c : Col} {q k k2 : Nat} {w : World} {v : Value} {l : List α} (h : Sl T c q k2 w v l) (hk : k2 ≠ q) : Sl T (c.turn q k) k k2 w v l := by
  have hst : Step (One q) c w (c.turn q k) w := (Step.refl (K := One q)).turn rfl
  rcases h with h | ⟨b, off, cap, hv, h1, h2, h3, h4, h5⟩
  · exact .inl h
  · refine .inr ⟨b, off, cap, hv, h1, h2, by simp [Col.turn, h3], h4, fun i x hx => ?_⟩
    obtain ⟨vs, a1, a2⟩ := h5 i x hx
    exact ⟨vs, T.keep hst hk a1, a2⟩

theorem Own.turn {α : Type} {T : Ty α} {e : TypeId} {c : Col} {q k k2 : Nat} {w : World} {v : Value} {l : List α} (h : Own T e c q k2 w v l) (hk : k2 ≠ q) : Own T e (c.turn q k) k k2 w v l := by
  have hst : Step (One q) c w (c.turn q k) w := (Step.refl (K := One q)).turn rfl
  obtain ⟨xss, hx, hrd, hlen, hown, hcol⟩ := h
  refine ⟨xss, hx, fun i x hi => ?_, hlen, hown, fun b hb => by simp [Col.turn, hcol b hb]⟩
  obtain ⟨vs, a1, a2⟩ := hrd i x hi
  exact ⟨vs, a1, T.keep hst hk a2⟩

theorem Sl.turnAll {α : Type} {T : Ty α} {c : Col} {q k : Nat} {w : World} {v : Value} {l : List α} (h : Sl T c q q w v l) : Sl T (c.turn q k) k k w v l := by
  rcases h with h | ⟨b, off, cap, hv, h1, h2, h3, h4, h5⟩
  · exact .inl h
  · refine .inr ⟨b, off, cap, hv, h1, h2, by simp [Col.turn, h3], h4, fun i x hx => ?_⟩
    obtain ⟨vs, a1, a2⟩ := h5 i x hx
    exact ⟨vs, T.turn a1, a2⟩

theorem Sl.turn2 {α : Type} {T : Ty α} {c : Col} {q k k2 : Nat} {w : World} {v : Value} {l : List α} (h : Sl T c k q w v l) (hk : k ≠ q) : Sl T (c.turn q k2) k k2 w v l := by
  rcases h with h | ⟨b, off, cap, hv, h1, h2, h3, h4, h5⟩
  · exact .inl h
  · refine .inr ⟨b, off, cap, hv, h1, h2, by simp [Col.turn, h3, hk], h4, fun i x hx => ?_⟩
    obtain ⟨vs, a1, a2⟩ := h5 i x hx
    exact ⟨vs, T.turn a1, a2⟩

theorem Own.turn2 {α : Type} {T : Ty α} {e : TypeId} {c : Col} {q k k2 : Nat} {w : World} {v : Value} {l : List α} (h : Own T e c k q w v l) (hk : k ≠ q) : Own T e (c.turn q k2) k k2 w v l := by
  obtain ⟨xss, hx, hrd, hlen, hown, hcol⟩ := h
  refine ⟨xss, hx, fun i x hi => ?_, hlen, hown, fun b hb => by simp [Col.turn, hcol b hb, hk]⟩
  obtain ⟨vs, a1, a2⟩ := hrd i x hi
  exact ⟨vs, a1, T.turn a2⟩

/-- A step on a colour of its own is no step on anything old. -/
theorem Step.own {c c' : Col} {w w' : World} {q : Nat} (h : Step (One q) c w c' w') (hq : ∀ b, c b ≠ q) : Step No c w c' w' := h.drop fun b _ e => (hq b e).elim

theorem Step.own2 {c c' : Col} {w w' : World} {q q2 : Nat} (h : Step (Two q q2) c w c' w') (hq : ∀ b, c b ≠ q) (hq2 : ∀ b, c b ≠ q2) : Step No c w c' w' :=
  h.drop fun b _ e => by rcases e with e | e; exact (hq b e).elim; exact (hq2 b e).elim

/-- A new row, of a colour. -/
theorem Own.new {α : Type} (T : Ty α) (e : TypeId) {c : Col} {w : World} (hok : Ok c w) (k k2 : Nat) (xss : List (List Value)) (l : List α) (hl : xss.length = l.length) (hm : l.length ≤ maxLen)
    (hrd : ∀ (i : Nat) x, l[i]? = some x → ∃ vs, xss[i]? = some vs ∧ T.rd c k2 w vs x) (hlen : ∀ vs ∈ xss, vs.length = T.n) :
    Own T e (c.put w.heap.size k) k k2 (w.alloc (.cells xss.flatten.toArray e)) (.slice (some ⟨w.heap.size, 0, none⟩) l.length l.length) l ∧ Ok (c.put w.heap.size k) (w.alloc (.cells xss.flatten.toArray e)) ∧
      Step No c w (c.put w.heap.size k) (w.alloc (.cells xss.flatten.toArray e)) := by
  have hst : Step No c w (c.put w.heap.size k) (w.alloc (.cells xss.flatten.toArray e)) := (Step.refl.alloc _).put (.inl (Nat.le_refl _))
  have hnew : (w.alloc (.cells xss.flatten.toArray e)).heap[w.heap.size]? = some (.cells xss.flatten.toArray e (0, 0)) := heap_alloc_new w _
  refine ⟨⟨xss, hl, fun i x hi => ?_, hlen, ⟨by rw [flatten_len xss hlen, hl], .inr ⟨w.heap.size, l.length, _, rfl, Nat.zero_le _, hnew, Nat.le_refl _, hm, ?_, ?_⟩⟩, fun b hb => ?_⟩, (hok.alloc _).put (by simp) (fun o => ?_), hst⟩
  · obtain ⟨vs, a1, a2⟩ := hrd i x hi
    exact ⟨vs, a1, T.keep hst (fun h => h) a2⟩
  · simp only [List.size_toArray]; rw [flatten_len xss hlen, hl]
  · rw [← hl, ← flatten_len xss hlen]; exact List.take_of_length_le (Nat.le_refl _)
  · simp [Value.ownBlock] at hb; subst hb; simp
  · unfold World.frozen?; rw [hnew]; simp

theorem Own.new0 {α : Type} (T : Ty α) (e : TypeId) {c : Col} {w : World} (hok : Ok c w) (k k2 : Nat) :
    Own T e (c.put w.heap.size k) k k2 (w.alloc (.cells #[] e)) (.slice (some ⟨w.heap.size, 0, none⟩) 0 0) [] ∧ Ok (c.put w.heap.size k) (w.alloc (.cells #[] e)) ∧
      Step No c w (c.put w.heap.size k) (w.alloc (.cells #[] e)) :=
  Own.new T e hok k k2 [] [] rfl (Nat.zero_le _) (by simp) (by simp)

/-! ### For walks -/
/-- What a step leaves, in the walk's own spelling. -/
theorem Step.facts {c c1 : Col} {W w1 : World} (h : Step No c W c1 w1) : (∀ b o, b < W.heap.size → w1.cell? ⟨b, o, none⟩ = W.cell? ⟨b, o, none⟩) ∧ (∀ b o, b < W.heap.size → w1.frozen? ⟨b, o, none⟩ = W.frozen? ⟨b, o, none⟩) :=
  ⟨fun _ _ hb => h.cell hb (fun x => x), fun _ _ hb => h.frozen hb (fun x => x)⟩

theorem Step.set1 {c : Col} {w : World} (a : Addr) (u : Value) : Step (One (c a.block)) c w c (w.setCell a u) := (Step.refl (K := One (c a.block))).setCell (.inr rfl) u

theorem Sl.set {α : Type} {T : Ty α} {c : Col} {k k2 : Nat} {w : World} {v : Value} {l : List α} (h : Sl T c k k2 w v l) {a : Addr} (h1 : c a.block ≠ k) (h2 : c a.block ≠ k2) (u : Value) : Sl T c k k2 (w.setCell a u) v l :=
  h.keep (Step.set1 a u) (fun e => h1 e.symm) (fun e => h2 e.symm)

theorem Own.set {α : Type} {T : Ty α} {e : TypeId} {c : Col} {k k2 : Nat} {w : World} {v : Value} {l : List α} (h : Own T e c k k2 w v l) {a : Addr} (h1 : c a.block ≠ k) (h2 : c a.block ≠ k2) (u : Value) : Own T e c k k2 (w.setCell a u) v l :=
  h.keep (Step.set1 a u) (fun e => h1 e.symm) (fun e => h2 e.symm)

theorem Sl.any {c : Col} {k k2 : Nat} {w : World} {v : Value} {l : List UInt8} (h : Sl TByte c k k2 w v l) (k3 : Nat) : Sl TByte c k k3 w v l := h
theorem Sl.anyI {ik : IntKind} {c : Col} {k k2 : Nat} {w : World} {v : Value} {l : List Int} (h : Sl (TInt ik) c k k2 w v l) (k3 : Nat) : Sl (TInt ik) c k k3 w v l := h

/-- One value in a new block (the second operand of append(l, x)). -/
theorem put_one {α : Type} {T : Ty α} {c : Col} {w : World} (hok : Ok c w) {k2 : Nat} {vs : List Value} {x : α} (hr : T.rd c k2 w vs x) (e : TypeId) :
    Ok c (w.alloc (.cells vs.toArray e)) ∧ Sl T c 0 k2 (w.alloc (.cells vs.toArray e)) (.slice (some ⟨w.heap.size, 0, none⟩) 1 1) [x] ∧ Step No c w c (w.alloc (.cells vs.toArray e)) :=
  ⟨hok.alloc _, Sl.single (T.keep ((Step.refl (K := No)).alloc _) (fun h => h) hr) (cellsAt_new w vs e _) (by simp) (hok.fresh _ (Nat.le_refl _)) (Nat.le_refl _) (by simp [maxLen]), Step.refl.alloc _⟩

end Go.Proofs.YtgcobbapaaihiaaGreat
