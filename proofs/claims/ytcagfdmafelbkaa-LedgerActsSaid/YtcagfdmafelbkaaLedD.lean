/- Ledger: the plain data: entries, what is kept of them, what a ledger answers. -/
import Derived.Test.YtcagfdmafelbkaaLib
namespace Go.Proofs.Ytcagfdmafelbkaa

structure Entry where
  now : Int
  who : Int
  kind : Int
  fault : Int
  id : Int
  bytes : List UInt8

namespace Entry
def kept (e : Entry) : Entry :=
  { now := e.now, who := e.who, kind := e.kind, fault := if e.kind = 1 then e.fault else 0, id := if e.kind = 2 then e.id else 0,
    bytes := if e.kind = 1 ∨ e.kind = 3 then e.bytes else [] }
end Entry

/-- api.Entry: six cells. -/
def TEntry : Ty Entry where
  n := 6
  rd := fun c k w vs e => ∃ bv, vs = [.int .i64 e.now, .int .i64 e.who, .int .i64 e.kind, .int .i64 e.fault, .int .i64 e.id, bv] ∧ Sl TByte c k k w bv e.bytes
  len := by rintro _ _ _ _ _ ⟨bv, rfl, _⟩; rfl
  one := by
    rintro _ _ _ _ _ ⟨bv, rfl, h⟩ u hu
    obtain ⟨a, cap, rfl, _⟩ := h.form
    simp at hu
    rcases hu with rfl | rfl | rfl | rfl | rfl | rfl <;> rfl
  keep := by
    rintro K c w c' w' k vs e hs hk ⟨bv, rfl, h⟩
    exact ⟨bv, rfl, h.keep hs hk hk⟩
  turn := by
    rintro c q k w vs e ⟨bv, rfl, h⟩
    exact ⟨bv, rfl, h.turnAll⟩

/-- A ledger: the struct, of colour k, and the row of its entries, of colour kr; the entries' bytes are nobody's. -/
structure IsLed (c : Col) (k kr : Nat) (w : World) (b : Nat) (n : Int) (l : List Entry) : Prop where
  col : c b = k
  num : w.cell? ⟨b, 0, none⟩ = some (.int .i64 n)
  row : ∃ v, w.cell? ⟨b, 1, none⟩ = some v ∧ Own TEntry 34 c kr 0 w v l

theorem IsLed.lt {c k kr w b n l} (h : IsLed c k kr w b n l) : b < w.heap.size := World.block_lt_of_cell? w _ h.num

theorem IsLed.keep {K : Nat → Prop} {c c' : Col} {k kr : Nat} {w w' : World} {b : Nat} {n : Int} {l : List Entry} (h : IsLed c k kr w b n l) (hs : Step K c w c' w') (hk : ¬ K k) (hkr : ¬ K kr) (h0 : ¬ K 0) : IsLed c' k kr w' b n l := by
  have hb := h.lt
  have hkb : ¬ K (c b) := by rw [h.col]; exact hk
  obtain ⟨v, h1, h2⟩ := h.row
  exact ⟨(hs.col b hb hkb).trans h.col, (hs.cell hb hkb).trans h.num, v, (hs.cell hb hkb).trans h1, h2.keep hs hkr h0⟩

/-- What Add answers. -/
def addErr (n : Int) (l : List Entry) (e : Entry) : Int :=
  if e.who < 0 ∨ n ≤ e.who ∨ e.now < 0 ∨ 1099511627776 < e.now then 3
  else if e.kind < 1 ∨ 3 < e.kind then 5
  else if (l.getLast?.map (·.now)).any (fun x => e.now < x) then 9
  else if 65536 ≤ l.length then 7 else 0
def addNew (n : Int) (l : List Entry) (e : Entry) : List Entry := if addErr n l e = 0 then l ++ [e.kept] else l
end Go.Proofs.Ytcagfdmafelbkaa
