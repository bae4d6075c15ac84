/- The laws' own kit: LentBytes. -/
import Derived.Test.YtcagfdmafelbkaaKit3
namespace Go.Proofs.Ytcagfdmafelbkaa
open Go.RowKit

def four : List UInt8 := [201, 202, 203, 204]

theorem put_four {c : Col} {w : World} (hok : Ok c w) (k2 : Nat) (e : TypeId) :
    Sl TByte c 0 k2 (w.alloc (.cells #[.int .u8 201, .int .u8 202, .int .u8 203, .int .u8 204] e)) (.slice (some ⟨w.heap.size, 0, none⟩) 4 4) four := by
  refine .inr ⟨w.heap.size, 0, 4, rfl, by decide, by simp [maxLen], hok.fresh _ (Nat.le_refl _), by simp, fun i x hx => ?_⟩
  have hi := (List.getElem?_eq_some_iff.1 hx).1
  have hc := cellsAt_new w [.int .u8 201, .int .u8 202, .int .u8 203, .int .u8 204] e (0, 0)
  refine ⟨_, rfl, fun j u hu => ?_⟩
  have hj : j = 0 := by have := (List.getElem?_eq_some_iff.1 hu).1; simp at this; omega
  subst hj
  simp at hu; subst hu
  simp only [four, List.length_cons, List.length_nil] at hi
  have := hc i (.int .u8 x.toNat) (by
    rcases i with _ | _ | _ | _ | i
    · simp [four] at hx; subst hx; rfl
    · simp [four] at hx; subst hx; rfl
    · simp [four] at hx; subst hx; rfl
    · simp [four] at hx; subst hx; rfl
    · omega)
  rw [show (0 + i * TByte.n + 0) = 0 + i by show 0 + i * 1 + 0 = 0 + i; omega]
  exact this

theorem Sl.front {α : Type} {T : Ty α} {c : Col} {k k2 : Nat} {w : World} {b off n cap : Nat} {l m : List α} (h : Sl T c k k2 w (.slice (Option.some ⟨b, off, none⟩) n cap) (l ++ m)) (hm : m ≠ []) : Sl T c k k2 w (.slice (Option.some ⟨b, off, none⟩) l.length cap) l := by
  rcases h with ⟨h, _⟩ | ⟨b', off', cap', hv, h1, h2, h3, h4, h5⟩
  · simp at h; exact absurd h.2 hm
  · cases hv
    refine .inr ⟨b, off, cap, rfl, by simp at h1; omega, h2, h3, h4, fun i x hx => h5 i x ?_⟩
    rw [List.getElem?_append_left (List.getElem?_eq_some_iff.1 hx).1]; exact hx

theorem Sl.back {c : Col} {k k2 : Nat} {w : World} {b off n cap : Nat} {l m : List UInt8} (h : Sl TByte c k k2 w (.slice (Option.some ⟨b, off, none⟩) n cap) (l ++ m)) (hm : m ≠ []) : Sl TByte c k k2 w (.slice (Option.some ⟨b, off + l.length, none⟩) m.length (cap - l.length)) m := by
  rcases h with ⟨h, _⟩ | ⟨b', off', cap', hv, h1, h2, h3, h4, h5⟩
  · simp at h; exact absurd h.2 hm
  · cases hv
    refine .inr ⟨b, off + l.length, cap - l.length, rfl, by simp at h1; omega, by omega, h3, h4, fun i x hx => ?_⟩
    have := h5 (l.length + i) x (by rw [List.getElem?_append_right (by omega)]; simpa using hx)
    obtain ⟨vs, a1, a2⟩ := this
    refine ⟨vs, a1, ?_⟩
    rw [show off + l.length + i * TByte.n = off + (l.length + i) * TByte.n by show off + l.length + i * 1 = off + (l.length + i) * 1; omega]
    exact a2

set_option maxHeartbeats 400000 in
set_option maxRecDepth 100000 in
theorem lentBytes_any {c : Col} {w : World} (hok : Ok c w) {kx kx2 : Nat} (k k2 : Nat) {v : Value} {l : List UInt8} (hv : Sl TByte c kx kx2 w v l) (hlen : l.length ≤ 1000000000) :
    Calls Try.prog 13 #[v] w fun e w' => ∃ b off cap c', e = .returned (.slice (some ⟨b, off, none⟩) l.length cap) ∧ l.length + 4 ≤ cap ∧ cap ≤ maxLen ∧
      Sl TByte c' k k2 w' (.slice (some ⟨b, off, none⟩) (l.length + 4) cap) (l ++ four) ∧ Step No c w c' w' ∧ Ok c' w' := by
  have hx := hv.any k2
  obtain ⟨va, vc, rfl, hva⟩ := hv.form
  clear hv hva
  obtain ⟨q, hq, hqc⟩ := hok.spare k2
  have hqk : k2 ≠ q := by omega
  have hq0 : q ≠ 0 := by omega
  obtain ⟨o1, o2, o3⟩ := Own.new0 TByte 5 hok q k2
  have hx' := hx.kn o3
  have hml : ([] : List UInt8).length + l.length ≤ maxLen := by simp [maxLen]; omega
  have hbl : (([] : List UInt8).length + l.length) * 1 ≤ 140737488355328 := by simp; omega
  have hml2 : Hid (([] ++ l : List UInt8).length + four.length ≤ maxLen) := by show _ ≤ _; simp [maxLen, four]; omega
  have hbl2 : Hid ((([] ++ l : List UInt8).length + four.length) * 1 ≤ 140737488355328) := by show _ ≤ _; simp [four]; omega
  have hpos : Hid (0 < ([] ++ l ++ four).length) := by show _ < _; simp [four]
  clear hx
  go_enter Try.func13, Try.ntmps13
  go_wp2_with (at_builtin; first
    | (refine wpList_app TByte o2 rfl _ _ 32 rfl 5 Try.underlying32 infoByte rfl (by decide) rfl rfl o1 hx' hqk hml hbl ?_; intro v1 w1 c1 a1 a2 a3 _; obtain ⟨v1a, v1c, rfl, _⟩ := a1.sl.form)
    | (refine wpList_app TByte (a3.alloc _) rfl _ _ 32 rfl 5 Try.underlying32 infoByte rfl (by decide) rfl rfl (a1.kn (Step.al _)) (put_four a3 k2 5) hqk hml2.out hbl2.out ?_; intro v2 w2 c2 b1 b2 b3 _; skip))
  obtain ⟨vb, vo, vcap, rfl, g1, g2, g3, g4⟩ := b1.sl.some hpos.out
  have B1 := Lib.hid b1
  have B2 := Lib.hid b2
  have B3 := Lib.hid b3
  have g1' : l.length ≤ vcap := by simp at g1; omega
  have g1'' : l.length + 4 ≤ vcap := by simpa [four] using g1
  clear b1 b2 b3 g1 g3 g4
  have j0 : (0 : Int) ≤ (l.length : Int) := by omega
  have j1 : (l.length : Int) ≤ (vcap : Int) := by omega
  go_simp
  go_wp2
  go_ret
  exact ⟨vb, vo, vcap, c2.turn q k, rfl, g1'', g2, by simpa [four] using B1.out.sl.turn hqk, (((o3.ofNo.trans a2).trans ((Step.al _).ofNo.trans B2.out)).turn rfl).own hqc, B3.out.turn hq0⟩
end Go.Proofs.Ytcagfdmafelbkaa
