/- Ledger: List, New. -/
import Derived.Test.YtcagfdmafelbkaaLed3
import Derived.Test.YtcagfdmafelbkaaLib2
namespace Go.Proofs.Ytcagfdmafelbkaa
open Go.RowKit

/-- The cells of element j of a slice of entries. -/
theorem entry_at {c : Col} {k k2 : Nat} {w : World} {g off cap len : Nat} {l : List Entry} (h : Sl TEntry c k k2 w (.slice (some ⟨g, off, none⟩) len cap) l) {j : Nat} {e : Entry} (hj : l[j]? = some e) :
    ∃ bv, TEntry.rd c k2 w [.int .i64 e.now, .int .i64 e.who, .int .i64 e.kind, .int .i64 e.fault, .int .i64 e.id, bv] e ∧ Sl TByte c k2 k2 w bv e.bytes ∧
      w.cell? ⟨g, off + j * 6, none⟩ = some (.int .i64 e.now) ∧ w.cell? ⟨g, off + j * 6 + 1, none⟩ = some (.int .i64 e.who) ∧ w.cell? ⟨g, off + j * 6 + 2, none⟩ = some (.int .i64 e.kind) ∧
      w.cell? ⟨g, off + j * 6 + 3, none⟩ = some (.int .i64 e.fault) ∧ w.cell? ⟨g, off + j * 6 + 4, none⟩ = some (.int .i64 e.id) ∧ w.cell? ⟨g, off + j * 6 + 5, none⟩ = some bv := by
  rcases h with ⟨rfl, _⟩ | ⟨g', off', cap', hv, h1, h2, h3, h4, h5⟩
  · simp at hj
  · cases hv
    obtain ⟨vs, hr, hc⟩ := h5 j e hj
    have hr' := hr
    obtain ⟨bv, rfl, hb⟩ := hr
    exact ⟨bv, hr', hb, hc 0 _ rfl, hc 1 _ rfl, hc 2 _ rfl, hc 3 _ rfl, hc 4 _ rfl, hc 5 _ rfl⟩

set_option maxRecDepth 100000 in
set_option maxHeartbeats 800000 in
theorem list_any {c : Col} {w : World} (hok : Ok c w) {k kr b : Nat} {n : Int} {l : List Entry} (hL : IsLed c k kr w b n l) (hn : 1 ≤ n) (hll : l.length ≤ 65536) (hlb : ∀ e ∈ l, e.bytes.length ≤ 1000000000) (ka kb : Nat) :
    Calls Try.prog 18 #[.pointer (some ⟨b, 0, none⟩)] w fun r w' => ∃ v' c', r = .returned v' ∧ Sl TEntry c' ka kb w' v' (l.map Entry.kept) ∧ Step No c w c' w' ∧ Ok c' w' := by
  have hL2 := Lib.hid hL
  obtain ⟨hcol, hnum, v, hv, hown⟩ := hL
  have z1 := none_no w b n hnum hn
  obtain ⟨q, hq, hqc⟩ := hok.spare (max ka kb)
  obtain ⟨q2, hq2, hqc2⟩ := hok.spare q
  rcases hown.sl with ⟨rfl, a0, cap0, rfl, _⟩ | hs'
  · go_enter Try.func18, Try.ntmps18
    go_wp2_with (go_at_call 55; refine z1.mono ?_; rintro e w' ⟨rfl, rfl⟩)
    refine wp_loop_once ?_
    go_wp2
    go_ret
    exact ⟨_, c, rfl, Sl.nil _ _ _ _ _, Step.refl, hok⟩
  · have hs0 : Sl TEntry c kr 0 w v l := .inr hs'
    obtain ⟨g, off, cap, rfl, hlc, hcm, hgc, hgl, _⟩ := hs'
    have hnk : ¬ Two q q2 kr := by rintro (e | e); exact hqc g (by omega); exact hqc2 g (by omega)
    have hnk0 : ¬ Two q q2 0 := by rintro (e | e) <;> omega
    have hqq : q2 ≠ q := by omega
    have hm : l.length ≤ 9223372036854775807 := by omega
    go_enter Try.func18, Try.ntmps18
    go_wp2_with (go_at_call 55; refine z1.mono ?_; rintro e w' ⟨rfl, rfl⟩)
    go_loopw [2, 12] (fun out i wr => ∃ (j : Nat) (cr : Col), j ≤ l.length ∧ i = .int .i64 j ∧ Own TEntry 34 cr q q2 wr out ((l.take j).map Entry.kept) ∧ Step (Two q q2) c w cr wr ∧ Ok cr wr) (fun _ i _ => l.length - (intOf i).toNat)
    case atStart => exact ⟨0, c, Nat.zero_le _, rfl, Own.nil _ _ _ _ _ _, Step.refl, hok⟩
    case round =>
      obtain ⟨j, cr, hj, rfl, h1, h2, h3⟩ := hrel
      by_cases hlt : j < l.length
      · have hv2 := hs0.keep h2 hnk hnk0
        obtain ⟨bv, e1, e2, y0, y1, y2, y3, y4, y5⟩ := entry_at hv2 (j := j) (e := l[j]) (by simp [hlt])
        obtain ⟨ba, bc, rfl, _⟩ := e2.form
        obtain ⟨oa, oc, hoo, _⟩ := h1.sl.form
        rw [show ((l.take j).map Entry.kept).length = j by simp; omega] at hoo
        subst hoo
        have J := kept_any (h3.alloc (.cells #[.int .i64 l[j].now, .int .i64 l[j].who, .int .i64 l[j].kind, .int .i64 l[j].fault, .int .i64 l[j].id, .slice ba l[j].bytes.length bc] 34)) q2 (Ty.kn e1 (Step.al _)) (hlb _ (List.getElem_mem hlt))
        go_wp2_with fail
        refine J.mono ?_
        rintro r w1 ⟨vs', c1, rfl, ⟨bv', rfl, a1⟩, a2, a3⟩
        obtain ⟨x1, x2, x3⟩ := put_one (T := TEntry) (x := l[j].kept) a3 ⟨bv', rfl, a1⟩ 34
        have hst := (Step.al (c := cr) (w := wr) (.cells #[.int .i64 l[j].now, .int .i64 l[j].who, .int .i64 l[j].kind, .int .i64 l[j].fault, .int .i64 l[j].id, .slice ba l[j].bytes.length bc] 34)).trans (a2.trans x3)
        have x4 := h1.kn hst
        have hb1 : ((l.take j).map Entry.kept).length + [l[j].kept].length ≤ maxLen := by simp [maxLen]; omega
        have hb2 : (((l.take j).map Entry.kept).length + [l[j].kept].length) * 64 ≤ 140737488355328 := by simp; omega
        obtain ⟨ba', bc', rfl, _⟩ := a1.form
        go_wp2_with (at_builtin; go_loud (refine wpList_app TEntry x1 rfl _ _ 22 rfl 34 Try.underlying22 infoEntry rfl (by decide) rfl rfl x4 x2 hqq hb1 hb2 ?_); intro v' w' c' b1 b2 b3 _)
        go_roundw
        case rel =>
          refine ⟨j + 1, c', by omega, by go_num, ?_, (h2.trans (hst.ofNo)).trans (b2.mono fun _ h => .inl h), b3⟩
          rw [List.take_succ_eq_append_getElem hlt, List.map_append]; exact b1
        case measure => simp [intOf]; omega
      · go_wp2
        go_ret
        have hjl : j = l.length := by omega
        subst hjl
        rw [List.take_length] at h1
        obtain ⟨c', g1, g2, g3⟩ := h1.out2 h2 h3 hqc hqc2 (by omega) (by omega) hqq ka kb (by omega)
        exact ⟨_, c', rfl, g1.sl, g2, g3⟩
end Go.Proofs.Ytcagfdmafelbkaa
