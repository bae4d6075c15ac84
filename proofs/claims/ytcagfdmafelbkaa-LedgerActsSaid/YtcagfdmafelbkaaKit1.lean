/- The laws' own kit: SameBytes, CopyBytes, OverBytes. -/
import Derived.Test.YtcagfdmafelbkaaRows
import Derived.Test.YtcagfdmafelbkaaByt
import Derived.Test.YtcagfdmafelbkaaLed1
import Derived.OpenShut
namespace Go.Proofs.Ytcagfdmafelbkaa
open Go.RowKit

theorem sameBytes_any {c : Col} {w : World} {k k2 k' k2' : Nat} {v v' : Value} {l l' : List UInt8} (h : Sl TByte c k k2 w v l) (h' : Sl TByte c k' k2' w v' l') :
    Calls Try.prog 59 #[v, v'] w fun r w' => r = .returned (.bool (l == l')) ∧ w = w' := by
  have e1 := conv_sl h 32 9 5 Try.underlying32 Try.underlying5 Try.underlying9
  have e2 := conv_sl h' 32 9 5 Try.underlying32 Try.underlying5 Try.underlying9
  obtain ⟨a, n, rfl, _⟩ := h.form
  obtain ⟨a', n', rfl, _⟩ := h'.form
  clear h h'
  go_enter Try.func59, Try.ntmps59
  go_wp2
  go_ret
  exact ⟨rfl, rfl⟩

set_option maxHeartbeats 400000 in
theorem copyBytes_any {c : Col} {w : World} (hok : Ok c w) {kx kx2 : Nat} (k k2 : Nat) {v : Value} {l : List UInt8} (hv : Sl TByte c kx kx2 w v l) (hlen : l.length ≤ 1000000000) :
    Calls Try.prog 57 #[v] w fun e w' => ∃ v' c', e = .returned v' ∧ Own TByte 5 c' k k2 w' v' l ∧ Step No c w c' w' ∧ Ok c' w' := by
  have hx := hv.any k2
  obtain ⟨va, vc, rfl, hva⟩ := hv.form
  clear hv hva
  obtain ⟨q, hq, hqc⟩ := hok.spare k2
  have hqk : k2 ≠ q := by omega
  have hq0 : q ≠ 0 := by omega
  obtain ⟨o1, o2, o3⟩ := Own.new0 TByte 5 hok q k2
  have hx' := hx.kn o3
  have hml : ([] : List UInt8).length + l.length ≤ maxLen := by simp [maxLen]; omega
  have hbl : (([] : List UInt8).length + l.length) * 1 ≤ 140737488355328 := by simp; omega
  clear hx
  go_enter Try.func57, Try.ntmps57
  go_wp2_with (at_builtin; refine wpList_app TByte o2 rfl _ _ 32 rfl 5 Try.underlying32 infoByte rfl (by decide) rfl rfl o1 hx' hqk hml hbl ?_; intro v' w' c' a1 a2 a3 _)
  go_ret
  exact ⟨v', c'.turn q k, rfl, a1.turn hqk, ((o3.ofNo.trans a2).turn rfl).own hqc, a3.turn hq0⟩

set_option maxHeartbeats 400000 in
theorem overBytes_any {c : Col} {w : World} (hok : Ok c w) {k : Nat} (hk0 : k ≠ 0) {v : Value} {n : Nat} (hv : BytesOf c k w v n) :
    Calls Try.prog 17 #[v] w fun e w' => e = .returned (.tuple #[]) ∧ Step (One k) c w c w' ∧ Ok c w' ∧ ByteSafe w w' := by
  obtain ⟨l, hl, hs⟩ := hv
  have hm := hs.length_le
  unfold maxLen at hm
  subst hl
  have hv2 : BytesOf c k w v l.length := ⟨l, rfl, hs⟩
  rcases hs with ⟨rfl, a0, cap0, rfl, _⟩ | ⟨b, off, cap, rfl, hlc, hcm, hgc, hgl, _⟩
  · go_enter Try.func17, Try.ntmps17
    go_wp2
    refine wp_loop_once ?_
    go_wp2
    first | go_end0 | skip
    exact ⟨rfl, Step.refl, hok, ByteSafe.refl _⟩
  · obtain ⟨n, hn⟩ : ∃ n, n = l.length := ⟨_, rfl⟩
    rw [← hn] at hv2 hm hlc ⊢
    clear hn
    go_enter Try.func17, Try.ntmps17
    go_wp2
    go_loopw [2] (fun i wr => ∃ j : Nat, j ≤ n ∧ i = .int .i64 j ∧ Step (One k) c w c wr ∧ Ok c wr ∧ ByteSafe w wr) (fun i _ => n - (intOf i).toNat)
    case atStart => exact ⟨0, Nat.zero_le _, rfl, Step.refl, hok, ByteSafe.refl _⟩
    case round =>
      obtain ⟨j, hj, rfl, h1, h2, h3⟩ := hrel
      by_cases hlt : j < n
      · obtain ⟨hb, hcb⟩ := hv2.cell hlt
        have hb' := h3 _ _ hb
        have HB := Lib.hid hb'
        obtain ⟨x, hx, x0, x1⟩ := hb'
        have hf := h2.soft b (off + j) (by rw [hcb]; exact hk0)
        clear hb
        obtain ⟨y, hy⟩ : ∃ y, bits BinOp.xor IntKind.u8 x 165 = y := ⟨_, rfl⟩
        have hy0 : 0 ≤ y ∧ y ≤ 255 := by
          have hw := wf_bits BinOp.xor IntKind.u8 x 165
          rw [hy] at hw
          have : IntKind.u8.min ≤ y ∧ y ≤ IntKind.u8.max := by simpa [Lit.wf] using hw
          exact ⟨this.1, this.2⟩
        have HY := Lib.hid hy0
        clear hy0
        go_wp2
        refine ⟨⟨j + 1, by omega, by go_num, ?_, ?_, ?_⟩, by simp [intOf]; omega⟩
        · exact h1.setCell (a := ⟨b, off + j, none⟩) (.inr hcb) _
        · exact h2.setCell _ _
        · exact h3.trans (ByteSafe.set HB.out HY.out.1 HY.out.2)
      · go_wp2
        first | go_end0 | skip
        exact ⟨rfl, h1, h2, h3⟩
end Go.Proofs.Ytcagfdmafelbkaa
