/- Own library: bytes as texts. -/
import Derived.Test.YtcagfdmafelbkabLib2
import Derived.Laws.IdiomStrings
set_option linter.unusedVariables false
set_option linter.unusedSimpArgs false
namespace Go.Proofs.Ytcagfdmafelbkab
open Go.RowKit

theorem conv_sl {P : Program} {c : Col} {k k2 : Nat} {w : World} {v : Value} {l : List UInt8} (h : Sl TByte c k k2 w v l) (src dst e : TypeId) (hs : P.underlying src = some (.slice e)) (he : P.underlying e = some (.int .u8)) (hd : P.underlying dst = some .string) :
    (convert src dst v).run P w = .ok (.string ⟨l.toArray⟩) w := by
  rcases h with ⟨rfl, a, cap, rfl, _, hcap⟩ | ⟨b, off, cap, rfl, _, _, _, _, h5⟩
  · cases a with
    | none =>
      obtain rfl := hcap rfl
      simp [convert, run_underlying hs, run_underlying he, run_underlying hd, Conv.bytesToString, Sem.run_pure]
      rfl
    | some ad => exact run_convert_bytes_back w src dst e ad cap [] hs he hd (by intro j hj; simp at hj)
  · refine run_convert_bytes_back w src dst e ⟨b, off, none⟩ cap l hs he hd (fun j hj => ?_)
    obtain ⟨vs, rfl, hc⟩ := h5 j l[j] (by simp [hj])
    have := hc 0 _ rfl
    have hadd : (⟨b, off, none⟩ : Addr).add j = ⟨b, off + j * TByte.n + 0, none⟩ := by unfold Addr.add; split <;> simp_all [TByte]
    rw [hadd]; exact this

/-- A byte cell. -/
def ByteCell (w : World) (a : Addr) : Prop := ∃ n : Int, w.cell? a = some (.int .u8 n) ∧ 0 ≤ n ∧ n ≤ 255
/-- Whatever was a byte is one still. -/
def ByteSafe (w w' : World) : Prop := ∀ b o, ByteCell w ⟨b, o, none⟩ → ByteCell w' ⟨b, o, none⟩
theorem ByteSafe.refl (w : World) : ByteSafe w w := fun _ _ h => h
theorem ByteSafe.trans {a b c : World} (h : ByteSafe a b) (k : ByteSafe b c) : ByteSafe a c := fun x o hx => k x o (h x o hx)
theorem ByteSafe.set {w : World} {a : Addr} (ha : ByteCell w a) {n : Int} (h0 : 0 ≤ n) (h1 : n ≤ 255) : ByteSafe w (w.setCell a (.int .u8 n)) := by
  intro b o ⟨m, hm, h2, h3⟩
  by_cases e : a = ⟨b, o, none⟩
  · subst e
    exact ⟨n, World.cell?_setCell_same' _ _ _ (by rw [hm]; rfl), h0, h1⟩
  · exact ⟨m, by rw [World.cell?_setCell_other _ _ _ _ e]; exact hm, h2, h3⟩

/-- A slice whose elements are bytes, whatever they are. -/
def BytesOf (c : Col) (k : Nat) (w : World) (v : Value) (n : Nat) : Prop := ∃ l : List UInt8, l.length = n ∧ Sl TByte c k k w v l

theorem BytesOf.cell {c : Col} {k : Nat} {w : World} {b off len cap n : Nat} (h : BytesOf c k w (.slice (some ⟨b, off, none⟩) len cap) n) {j : Nat} (hj : j < n) : ByteCell w ⟨b, off + j, none⟩ ∧ c b = k := by
  obtain ⟨l, hl, h⟩ := h
  rcases h with ⟨rfl, _⟩ | ⟨b', off', cap', hv, _, _, h3, _, h5⟩
  · simp at hl; omega
  · cases hv
    obtain ⟨vs, rfl, hc⟩ := h5 j (l[j]'(by omega)) (by simp [hl, hj])
    have := hc 0 _ rfl
    simp only [TByte, Nat.mul_one, Nat.add_zero] at this
    exact ⟨⟨_, this, by omega, by have := (l[j]'(by omega)).toNat_lt; omega⟩, h3⟩

theorem BytesOf.safe {c c' : Col} {k : Nat} {w w' : World} {v : Value} {n : Nat} (h : BytesOf c k w v n) (hs : ByteSafe w w') (hz : w.heap.size ≤ w'.heap.size) (hc : ∀ b, b < w.heap.size → c b = k → c' b = k) : BytesOf c' k w' v n := by
  obtain ⟨l, hl, h⟩ := h
  rcases h with h | ⟨b, off, cap, hv, h1, h2, h3, h4, h5⟩
  · exact ⟨l, hl, .inl h⟩
  · have key : ∀ i : Nat, ∃ y : UInt8, i < l.length → w'.cell? ⟨b, off + i, none⟩ = some (.int .u8 y.toNat) := by
      intro i
      by_cases hi : i < l.length
      · obtain ⟨vs, rfl, hcl⟩ := h5 i l[i] (by simp [hi])
        have := hcl 0 _ rfl
        simp only [TByte, Nat.mul_one, Nat.add_zero] at this
        obtain ⟨m, hm, m0, m1⟩ := hs b (off + i) ⟨_, this, by omega, by have := l[i].toNat_lt; omega⟩
        refine ⟨UInt8.ofNat m.toNat, fun _ => ?_⟩
        rw [hm]
        congr 2
        simp only [UInt8.toNat_ofNat']
        omega
      · exact ⟨0, fun h => absurd h hi⟩
    obtain ⟨f, hf⟩ := Classical.axiomOfChoice key
    refine ⟨(List.range l.length).map f, by simp [hl], .inr ⟨b, off, cap, by simpa using hv, by simpa using h1, h2, hc b h4 h3, Nat.lt_of_lt_of_le h4 hz, fun i x hx => ?_⟩⟩
    have hi : i < l.length := by have := (List.getElem?_eq_some_iff.1 hx).1; simpa using this
    simp [hi] at hx
    subst hx
    refine ⟨_, rfl, ?_⟩
    intro j u hu
    have hj : j = 0 := by have := (List.getElem?_eq_some_iff.1 hu).1; simp at this; omega
    subst hj
    simp at hu; subst hu
    simp only [TByte, Nat.mul_one, Nat.add_zero]
    exact hf i hi
end Go.Proofs.Ytcagfdmafelbkab
