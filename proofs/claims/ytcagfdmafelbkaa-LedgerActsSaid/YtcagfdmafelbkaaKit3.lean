/- The laws' own kit: OverEntries, LentBytes, KeptBytes. -/
import Derived.Test.YtcagfdmafelbkaaKit2
import Derived.Test.YtcagfdmafelbkaaRow
namespace Go.Proofs.Ytcagfdmafelbkaa
open Go.RowKit

theorem Step.ne2 {c c' : Col} {k k2 : Nat} {w w' : World} (h : Step (One k2) c w c' w') : Step (Two k k2) c w c' w' := h.mono fun _ x => .inr x
theorem Step.ne1 {c c' : Col} {k k2 : Nat} {w w' : World} (h : Step (One k) c w c' w') : Step (Two k k2) c w c' w' := h.mono fun _ x => .inl x

set_option maxRecDepth 100000 in
set_option maxHeartbeats 800000 in
theorem overEntries_any {c : Col} {w : World} (hok : Ok c w) {k k2 : Nat} (hk0 : k ≠ 0) (hk20 : k2 ≠ 0) (hkk : k2 ≠ k) {v : Value} {l : List Entry} (h : Sl TEntry c k k2 w v l) :
    Calls Try.prog 26 #[v] w fun e w' => e = .returned (.tuple #[]) ∧ Step (Two k k2) c w c w' ∧ Ok c w' := by
  have hm := h.length_le
  unfold maxLen at hm
  by_cases hl : 0 < l.length
  · obtain ⟨b, off, cap, rfl, hlc, hcm, hgc, hgl⟩ := h.some hl
    obtain ⟨n, hn⟩ : ∃ n, n = l.length := ⟨_, rfl⟩
    have h0 : ∃ l', l'.length = n ∧ Sl TEntry c k k2 w (.slice (some ⟨b, off, none⟩) n cap) l' := ⟨l, hn.symm, by rw [hn]; exact h⟩
    rw [← hn] at hm hlc ⊢
    clear h hn hl
    go_enter Try.func26, Try.ntmps26
    go_wp2
    go_loopw [2] (fun i wr => ∃ (j : Nat) (l' : List Entry), j ≤ n ∧ i = .int .i64 j ∧ Step (Two k k2) c w c wr ∧ Ok c wr ∧ l'.length = n ∧ Sl TEntry c k k2 wr (.slice (some ⟨b, off, none⟩) n cap) l') (fun i _ => n - (intOf i).toNat)
    case atStart =>
      obtain ⟨l', h1, h2⟩ := h0
      exact ⟨0, l', Nat.zero_le _, rfl, Step.refl, hok, h1, h2⟩
    case round =>
      obtain ⟨j, l', hj, rfl, s1, o1, hl', r1⟩ := hrel
      have HL := Lib.hid hl'
      by_cases hlt : j < n
      · obtain ⟨x, hx⟩ : ∃ x, l'[j]? = some x := ⟨l'[j]'(by omega), by simp [hl', hlt]⟩
        obtain ⟨bv, e1, e2, y0, y1, y2, y3, y4, y5⟩ := entry_at r1 hx
        clear hx
        have C := overBytes_any o1 hk20 (v := bv) ⟨_, rfl, e2⟩
        obtain ⟨ba, bc, rfl, _⟩ := e2.form
        clear hl'
        go_wp2_with (go_at_call 17; fail)
        refine C.mono ?_
        rintro e w1 ⟨rfl, s2, o2, sf⟩
        have hch := r1.change s2 (by show ¬ k = k2; omega) (fun vs x hr => by
          obtain ⟨bv, rfl, hb⟩ := hr
          obtain ⟨lb, hlb, hb'⟩ := BytesOf.safe (c' := c) (⟨_, rfl, hb⟩ : BytesOf c k2 wr bv _) sf s2.size (fun _ _ h => h)
          exact ⟨{ x with bytes := lb }, bv, rfl, hb'⟩)
        obtain ⟨l2, hl2, r2⟩ := hch
        have hj2 : j < l2.length := by rw [hl2, HL.out]; exact hlt
        have q0 : ∀ i, i < 6 → (w1.cell? ⟨b, off + j * 6 + i, none⟩).isSome = true := by
          intro i hi
          obtain ⟨bv2, _, _, z0, z1, z2, z3, z4, z5⟩ := entry_at r2 (j := j) (e := l2[j]) (by simp [hj2])
          rcases i with _ | _ | _ | _ | _ | _ | i
          · rw [show off + j * 6 + 0 = off + j * 6 from rfl, z0]; rfl
          · rw [z1]; rfl
          · rw [z2]; rfl
          · rw [z3]; rfl
          · rw [z4]; rfl
          · rw [z5]; rfl
          · omega
        have q00 := q0 0 (by omega)
        have q01 := q0 1 (by omega)
        have q02 := q0 2 (by omega)
        have q03 := q0 3 (by omega)
        have q04 := q0 4 (by omega)
        have q05 := q0 5 (by omega)
        simp only [Nat.add_zero] at q00
        obtain ⟨x0, hx0⟩ := Option.isSome_iff_exists.1 q00
        obtain ⟨x1, hx1⟩ := Option.isSome_iff_exists.1 q01
        obtain ⟨x2, hx2⟩ := Option.isSome_iff_exists.1 q02
        obtain ⟨x3, hx3⟩ := Option.isSome_iff_exists.1 q03
        obtain ⟨x4, hx4⟩ := Option.isSome_iff_exists.1 q04
        obtain ⟨x5, hx5⟩ := Option.isSome_iff_exists.1 q05
        have fz : ∀ o, w1.frozen? ⟨b, o, none⟩ = false := fun o => o2.soft b o (by rw [hgc]; exact hk0)
        have f0 := fz (off + j * 6)
        have f1 := fz (off + j * 6 + 1)
        have f2 := fz (off + j * 6 + 2)
        have f3 := fz (off + j * 6 + 3)
        have f4 := fz (off + j * 6 + 4)
        have f5 := fz (off + j * 6 + 5)
        have Q0 := Lib.hid q0
        clear q0 q00 q01 q02 q03 q04 q05 e1 y0 y1 y2 y3 y4 y5 C fz
        have P := r2.put (vs := [.int .i64 0, .int .i64 0, .int .i64 (-77), .int .i64 0, .int .i64 0, .slice none 0 0]) (x := ⟨0, 0, -77, 0, 0, []⟩) (by omega) hj2 ⟨_, rfl, .inl ⟨rfl, none, 0, rfl, by simp⟩⟩
        have st := (s1.trans s2.ne2)
        have st' := setMany_step (b := b) (.inr (.inl hgc)) [.int .i64 0, .int .i64 0, .int .i64 (-77), .int .i64 0, .int .i64 0, .slice none 0 0] w1 (off + j * 6) st
        have ok' := setMany_ok (b := b) [.int .i64 0, .int .i64 0, .int .i64 (-77), .int .i64 0, .int .i64 0, .slice none 0 0] w1 (off + j * 6) o2
        go_wp2
        exact ⟨⟨j + 1, _, by omega, by go_num, st', ok', by simp [hl2, HL.out], P⟩, by simp [intOf]; omega⟩
      · go_wp2
        first | go_end0 | skip
        exact ⟨rfl, s1, o1⟩
  · have hl : l = [] := by cases l with | nil => rfl | cons a t => exact absurd (by simp) hl
    subst hl
    obtain ⟨a, n, rfl, _⟩ := h.form
    clear h
    go_enter Try.func26, Try.ntmps26
    go_wp2
    refine wp_loop_once ?_
    go_wp2
    first | go_end0 | skip
    exact ⟨rfl, Step.refl, hok⟩
end Go.Proofs.Ytcagfdmafelbkaa
