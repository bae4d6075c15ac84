/- The reference's ledger: Of. -/
import Derived.Test.YtcagfdmafelbkaaRef5
namespace Go.Proofs.Ytcagfdmafelbkaa
open Go.RowKit

theorem about_step (l : List Entry) (who : Int) {j : Nat} {x : Entry} (hx : l[j]? = some x) :
    aboutL (l.take (j + 1)) who = aboutL (l.take j) who ++ if x.who == who then [x] else [] := by
  have : l.take (j + 1) = l.take j ++ [x] := by rw [List.take_add_one, hx]; rfl
  rw [this]
  unfold aboutL
  rw [List.filter_append]
  by_cases h : x.who == who <;> simp [h]

set_option maxRecDepth 100000 in
set_option maxHeartbeats 800000 in
theorem rof_any {c : Col} {w : World} (hok : Ok c w) {k kr b : Nat} {n : Int} {l : List Entry} (hL : IsLed c k kr w b n l) (hll : l.length ≤ 65536) (who : Int) (ka : Nat) :
    Calls Try.prog 21 #[.pointer (some ⟨b, 0, none⟩), .int .i64 who] w fun r w' => ∃ v' c', r = .returned v' ∧ Own TEntry 34 c' ka 0 w' v' (aboutL l who) ∧ Step No c w c' w' ∧ Ok c' w' := by
  obtain ⟨hcol, hnum, v, hv, hown⟩ := hL
  obtain ⟨q, hq, hqc⟩ := hok.spare ka
  have hb := World.block_lt_of_cell? w _ hv
  rcases hown.sl with ⟨rfl, a0, cap0, rfl, _⟩ | hs'
  · go_enter Try.func21, Try.ntmps21
    go_wp2
    refine wp_loop_once ?_
    go_wp2
    go_ret
    exact ⟨_, c, rfl, Own.nil _ _ _ _ _ _, Step.refl, hok⟩
  · have hs0 : Sl TEntry c kr 0 w v l := .inr hs'
    obtain ⟨g, off, cap, rfl, hlc, hcm, hgc, hgl, _⟩ := hs'
    have hnk : ¬ One q kr := by intro e; exact hqc g (by rw [hgc]; exact e)
    have hnb : ¬ One q (c b) := hqc b
    have hnk0 : ¬ One q 0 := by show ¬ 0 = q; omega
    have hqq : (0 : Nat) ≠ q := by omega
    have hm : l.length ≤ 9223372036854775807 := by omega
    clear hown
    go_enter Try.func21, Try.ntmps21
    go_wp2
    go_loopw [5, 6] (fun out i wr => ∃ (j : Nat) (cr : Col), j ≤ l.length ∧ i = .int .i64 j ∧ Own TEntry 34 cr q 0 wr out (aboutL (l.take j) who) ∧ Step (One q) c w cr wr ∧ Ok cr wr) (fun _ i _ => l.length - (intOf i).toNat)
    case atStart => exact ⟨0, c, Nat.zero_le _, rfl, Own.nil _ _ _ _ _ _, Step.refl, hok⟩
    case round =>
      obtain ⟨j, cr, hj, rfl, h1, h2, h3⟩ := hrel
      have hvr := (h2.cell (b := b) (o := 1) hb hnb).trans hv
      by_cases hlt : j < l.length
      · have hv2 := hs0.keep h2 hnk hnk0
        obtain ⟨x, hx⟩ : ∃ x, l[j]? = some x := ⟨l[j], by simp [hlt]⟩
        obtain ⟨bv, e1, e2, y0, y1, y2, y3, y4, y5⟩ := entry_at hv2 hx
        obtain ⟨ba, bc, rfl, _⟩ := e2.form
        obtain ⟨oa, oc, hoo, _⟩ := h1.sl.form
        have hst := Lib.hid (about_step l who hx)
        have hle : (aboutL (l.take j) who).length ≤ j := Nat.le_trans (List.length_filter_le _ _) (by simp; omega)
        obtain ⟨L, hL⟩ : ∃ L, L = aboutL (l.take j) who := ⟨_, rfl⟩
        rw [← hL] at h1 hst hle hoo
        clear hL hx
        subst hoo
        by_cases hw : x.who = who
        · have b1 : (x.who == who) = true := by simpa using hw
          have HB := Lib.hid b1
          clear hw
          obtain ⟨x1, x2, x3⟩ := put_one (T := TEntry) (x := x) h3 e1 34
          have x4 := h1.kn x3
          have hb1 : L.length + [x].length ≤ maxLen := by simp [maxLen]; omega
          have hb2 : (L.length + [x].length) * 64 ≤ 140737488355328 := by simp; omega
          go_wp2_with (at_builtin; go_loud (refine wpList_app TEntry x1 rfl _ _ 22 rfl 34 Try.underlying22 infoEntry rfl (by decide) rfl rfl x4 x2 hqq hb1 hb2 ?_); intro v' w' c' d1 d2 d3 _)
          go_roundw
          case rel =>
            refine ⟨j + 1, c', by omega, by go_num, ?_, h2.trans (x3.ofNo.trans d2), d3⟩
            rw [hst.out, HB.out, if_pos rfl]; exact d1
          case measure => simp [intOf]; omega
        · have b1 : (x.who == who) = false := by simpa using hw
          have HB := Lib.hid b1
          clear hw
          go_wp2
          refine ⟨⟨j + 1, cr, by omega, by go_num, ?_, h2, h3⟩, by simp [intOf]; omega⟩
          rw [hst.out, HB.out]; simpa using h1
      · have hjl : j = l.length := by omega
        subst hjl
        rw [List.take_length] at h1
        go_wp2
        go_ret
        obtain ⟨c', g1, g2, g3⟩ := h1.out1 h2 h3 hqc (by omega) hqq ka
        exact ⟨_, c', rfl, g1, g2, g3⟩
end Go.Proofs.Ytcagfdmafelbkaa
