/- Ledger: contracts of the program's functions, first part. -/
import Derived.Test.YtcagfdmafelbkaaRows
import Derived.Test.YtcagfdmafelbkaaLib
import Derived.Deep.DeepFit
import Derived.BigQuiet
import Derived.Deep.QuietTactic
namespace Go.Proofs.Ytcagfdmafelbkaa
open Go.RowKit

theorem infoByte : (Try.prog.info? 5).map (fun i => (i.zero, i.size, i.bytes)) = some (some (.int .u8 0), 1, 1) := by kernel_rfl

set_option maxHeartbeats 400000 in
theorem clone_bytes {c : Col} {w : World} (hok : Ok c w) {kx kx2 : Nat} (k k2 : Nat) {v : Value} {l : List UInt8} (hv : Sl TByte c kx kx2 w v l) (hlen : l.length ≤ 1000000000) :
    Calls Try.prog 77 #[v] w fun e w' => ∃ v' c', e = .returned v' ∧ Own TByte 5 c' k k2 w' v' l ∧ Step No c w c' w' ∧ Ok c' w' := by
  have hn := fun (w : World) a n c => Lib.run_eql_slice_nil (P := Try.prog) w 32 5 a n c 0 0 Try.underlying32
  obtain ⟨va, vc, rfl, hva⟩ := hv.form
  cases va with
  | none =>
    obtain ⟨rfl, rfl⟩ := hva rfl
    clear hv hva hlen
    simp only [List.length_nil]
    go_enter Try.func77, Try.ntmps77
    go_wp2
    go_ret
    exact ⟨_, c, rfl, Own.nil _ _ _ _ _ _, Step.refl, hok⟩
  | some ad =>
    have hx := hv.any k2
    clear hv hva
    obtain ⟨q, hq, hqc⟩ := hok.spare k2
    have hqk : k2 ≠ q := by omega
    have hq0 : q ≠ 0 := by omega
    obtain ⟨o1, o2, o3⟩ := Own.new0 TByte 5 hok q k2
    have hx' := hx.keep o3 (fun h => h) (fun h => h)
    have hml : ([] : List UInt8).length + l.length ≤ maxLen := by simp [maxLen]; omega
    have hbl : (([] : List UInt8).length + l.length) * 1 ≤ 140737488355328 := by simp; omega
    clear hx
    go_enter Try.func77, Try.ntmps77
    go_wp2_with (at_builtin; refine wpList_app TByte o2 rfl _ _ 32 rfl 5 Try.underlying32 infoByte rfl (by decide) rfl rfl o1 hx' hqk hml hbl ?_; intro v' w' c' a1 a2 a3 _)
    go_ret
    exact ⟨v', c'.turn q k, rfl, a1.turn hqk, ((o3.ofNo.trans a2).turn rfl).own hqc, a3.turn hq0⟩
end Go.Proofs.Ytcagfdmafelbkaa
