/- The laws' own kit: lists of numbers and of tries, side by side, and written over. -/
import Derived.Test.YtcagfdmafelbkaaLib3
import Derived.Test.YtcagfdmafelbkaaPiv1
namespace Go.Proofs.Ytcagfdmafelbkaa
open Go.RowKit

/-- A try: from, to, held. -/
structure Tri where
  from_ : Int
  to_ : Int
  held : Bool

def triC (x : Tri) : List Value := [.int .i64 x.from_, .int .i64 x.to_, .bool x.held]
def TTri : Ty Tri := TPlain 3 triC (fun _ => rfl) (fun x u hu => by simp [triC] at hu; rcases hu with rfl | rfl | rfl <;> rfl)
theorem infoTry : (Try.prog.info? 91).map (fun i => (i.zero, i.size, i.bytes)) = some (some (.agg #[.int .i64 0, .int .i64 0, .bool false]), 3, 24) := by kernel_rfl

theorem tri_at {c : Col} {k k2 : Nat} {w : World} {g off cap len : Nat} {l : List Tri} (h : Sl TTri c k k2 w (.slice (some ⟨g, off, none⟩) len cap) l) {j : Nat} {x : Tri} (hj : l[j]? = some x) :
    w.cell? ⟨g, off + j * 3, none⟩ = some (.int .i64 x.from_) ∧ w.cell? ⟨g, off + j * 3 + 1, none⟩ = some (.int .i64 x.to_) ∧ w.cell? ⟨g, off + j * 3 + 2, none⟩ = some (.bool x.held) := by
  obtain ⟨vs, rfl, h2⟩ := h.at hj
  exact ⟨h2.get 0 rfl, h2.get 1 rfl, h2.get 2 rfl⟩

theorem num_at {c : Col} {k k2 : Nat} {w : World} {g off cap len : Nat} {l : List Int} (h : Sl (TInt .i64) c k k2 w (.slice (some ⟨g, off, none⟩) len cap) l) {j : Nat} {x : Int} (hj : l[j]? = some x) :
    w.cell? ⟨g, off + j, none⟩ = some (.int .i64 x) := by
  obtain ⟨vs, ⟨rfl, _⟩, h2⟩ := h.at hj
  have := h2.get 0 rfl
  simpa [TInt] using this

set_option maxHeartbeats 800000 in
theorem sameInts_eq {c : Col} {w : World} {k k2 k' k2' : Nat} {v v' : Value} {l : List Int} (h : Sl (TInt .i64) c k k2 w v l) (h' : Sl (TInt .i64) c k' k2' w v' l) :
    Calls Try.prog 33 #[v, v'] w fun r w' => r = .returned (.bool true) ∧ ∃ n, w' = w.drewN n := by
  have hm := h.length_le
  unfold maxLen at hm
  by_cases hl : 0 < l.length
  · obtain ⟨b, off, cap, rfl, _⟩ := h.ex hl
    obtain ⟨b', off', cap', rfl, _⟩ := h'.ex hl
    go_enter Try.func33, Try.ntmps33
    go_wp2
    go_loopw [5, 6] (fun s i wr => ∃ (j m : Nat), j ≤ l.length ∧ i = .int .i64 j ∧ s = .bool true ∧ wr = w.drewN m) (fun _ i _ => l.length - (intOf i).toNat)
    case atStart => exact ⟨0, 0, Nat.zero_le _, rfl, rfl, rfl⟩
    case round =>
      obtain ⟨j, m, hj, rfl, rfl, hwr⟩ := hrel
      by_cases hlt : j < l.length
      · have y0 := num_at h (j := j) (x := l[j]) (by simp [hlt])
        have y1 := num_at h' (j := j) (x := l[j]) (by simp [hlt])
        have z0 : wr.cell? ⟨b, off + j, none⟩ = some (.int .i64 l[j]) := by rw [hwr]; exact y0
        have z1 : wr.cell? ⟨b', off' + j, none⟩ = some (.int .i64 l[j]) := by rw [hwr]; exact y1
        have HW := Lib.hid hwr
        have hj0 : (0 : Int) ≤ (j : Int) := by omega
        have hj1 : (j : Int) < (l.length : Int) := by omega
        clear hwr y0 y1
        go_wp2_with fail
        go_quiet (fail)
        go_wp2_with fail
        go_roundw
        case rel => exact ⟨j + 1, _, by omega, by go_num, rfl, by rw [HW.out]; exact World.drewN_drewN _ _ _⟩
        case measure => simp [intOf]; omega
      · have HW := Lib.hid hwr
        clear hwr
        go_wp2
        go_ret
        exact ⟨rfl, m, HW.out⟩
  · have hl0 : l = [] := List.eq_nil_of_length_eq_zero (by omega)
    subst hl0
    obtain ⟨a, n, rfl, _⟩ := h.form
    obtain ⟨a', n', rfl, _⟩ := h'.form
    clear h h'
    simp only [List.length_nil]
    go_enter Try.func33, Try.ntmps33
    go_wp2
    refine wp_loop_once ?_
    go_wp2
    go_ret
    exact ⟨rfl, 0, rfl⟩

set_option maxHeartbeats 800000 in
theorem sameTries_eq {c : Col} {w : World} {k k2 k' k2' : Nat} {v v' : Value} {l : List Tri} (h : Sl TTri c k k2 w v l) (h' : Sl TTri c k' k2' w v' l) :
    Calls Try.prog 32 #[v, v'] w fun r w' => r = .returned (.bool true) ∧ ∃ n, w' = w.drewN n := by
  have hm := h.length_le
  unfold maxLen at hm
  by_cases hl : 0 < l.length
  · obtain ⟨b, off, cap, rfl, _⟩ := h.ex hl
    obtain ⟨b', off', cap', rfl, _⟩ := h'.ex hl
    go_enter Try.func32, Try.ntmps32
    go_wp2
    go_loopw [5, 6] (fun s i wr => ∃ (j m : Nat), j ≤ l.length ∧ i = .int .i64 j ∧ s = .bool true ∧ wr = w.drewN m) (fun _ i _ => l.length - (intOf i).toNat)
    case atStart => exact ⟨0, 0, Nat.zero_le _, rfl, rfl, rfl⟩
    case round =>
      obtain ⟨j, m, hj, rfl, rfl, hwr⟩ := hrel
      by_cases hlt : j < l.length
      · obtain ⟨y0, y1, y2⟩ := tri_at h (j := j) (x := l[j]) (by simp [hlt])
        obtain ⟨u0, u1, u2⟩ := tri_at h' (j := j) (x := l[j]) (by simp [hlt])
        have z : ∀ a, wr.cell? a = w.cell? a := fun a => by rw [hwr]; rfl
        rw [← z] at y0 y1 y2 u0 u1 u2
        have HW := Lib.hid hwr
        have hj0 : (0 : Int) ≤ (j : Int) := by omega
        have hj1 : (j : Int) < (l.length : Int) := by omega
        clear hwr z
        go_wp2_with fail
        go_quiet (fail)
        go_wp2_with fail
        go_roundw
        case rel => exact ⟨j + 1, _, by omega, by go_num, rfl, by rw [HW.out]; exact World.drewN_drewN _ _ _⟩
        case measure => simp [intOf]; omega
      · have HW := Lib.hid hwr
        clear hwr
        go_wp2
        go_ret
        exact ⟨rfl, m, HW.out⟩
  · have hl0 : l = [] := List.eq_nil_of_length_eq_zero (by omega)
    subst hl0
    obtain ⟨a, n, rfl, _⟩ := h.form
    obtain ⟨a', n', rfl, _⟩ := h'.form
    clear h h'
    simp only [List.length_nil]
    go_enter Try.func32, Try.ntmps32
    go_wp2
    refine wp_loop_once ?_
    go_wp2
    go_ret
    exact ⟨rfl, 0, rfl⟩

set_option maxHeartbeats 800000 in
theorem overInts_any {c : Col} {w : World} (hok : Ok c w) {k k2 : Nat} (hk0 : k ≠ 0) (hkk : k2 ≠ k) {v : Value} {l : List Int} (h : Sl (TInt .i64) c k k2 w v l) :
    Calls Try.prog 37 #[v] w fun e w' => e = .returned (.tuple #[]) ∧ Step (One k) c w c w' ∧ Ok c w' := by
  have hm := h.length_le
  unfold maxLen at hm
  by_cases hl : 0 < l.length
  · obtain ⟨b, off, cap, rfl, hlc, hcm, hgc, hgl⟩ := h.ex hl
    obtain ⟨n, hn⟩ : ∃ n, n = l.length := ⟨_, rfl⟩
    have h0 : ∃ l', l'.length = n ∧ Sl (TInt .i64) c k k2 w (.slice (some ⟨b, off, none⟩) n cap) l' := ⟨l, hn.symm, by rw [hn]; exact h⟩
    rw [← hn] at hm hlc ⊢
    clear h hn hl
    go_enter Try.func37, Try.ntmps37
    go_wp2
    go_loopw [2] (fun i wr => ∃ (j : Nat) (l' : List Int), j ≤ n ∧ i = .int .i64 j ∧ Step (One k) c w c wr ∧ Ok c wr ∧ l'.length = n ∧ Sl (TInt .i64) c k k2 wr (.slice (some ⟨b, off, none⟩) n cap) l') (fun i _ => n - (intOf i).toNat)
    case atStart =>
      obtain ⟨l', h1, h2⟩ := h0
      exact ⟨0, l', Nat.zero_le _, rfl, Step.refl, hok, h1, h2⟩
    case round =>
      obtain ⟨j, l', hj, rfl, s1, o1, hl', r1⟩ := hrel
      have HL := Lib.hid hl'
      by_cases hlt : j < n
      · obtain ⟨x, hx⟩ : ∃ x, l'[j]? = some x := ⟨l'[j]'(by omega), by simp [hl', hlt]⟩
        have y0 := num_at r1 hx
        clear hx
        have f0 : wr.frozen? ⟨b, off + j, none⟩ = false := o1.soft b _ (by rw [hgc]; exact hk0)
        have P := r1.put (vs := [.int .i64 (-77)]) (x := -77) (by omega) (by rw [hl']; exact hlt) ⟨rfl, by decide, by decide⟩
        replace P : Sl (TInt .i64) c k k2 (wr.setCell ⟨b, off + j * 1, none⟩ (.int .i64 (-77))) (.slice (some ⟨b, off, none⟩) n cap) (l'.set j (-77)) := P
        rw [Nat.mul_one] at P
        clear hl'
        go_wp2
        exact ⟨⟨j + 1, _, by omega, by go_num, s1.setCell (a := ⟨b, off + j, none⟩) (.inr (show One k (c b) from hgc)) _, o1.setCell _ _, by simp [HL.out], P⟩, by simp [intOf]; omega⟩
      · clear hl'
        go_wp2
        first | go_end0 | skip
        exact ⟨rfl, s1, o1⟩
  · have hl : l = [] := by cases l with | nil => rfl | cons a t => exact absurd (by simp) hl
    subst hl
    obtain ⟨a, n, rfl, _⟩ := h.form
    clear h
    go_enter Try.func37, Try.ntmps37
    go_wp2
    refine wp_loop_once ?_
    go_wp2
    first | go_end0 | skip
    exact ⟨rfl, Step.refl, hok⟩

set_option maxHeartbeats 800000 in
theorem overTries_any {c : Col} {w : World} (hok : Ok c w) {k k2 : Nat} (hk0 : k ≠ 0) (hkk : k2 ≠ k) {v : Value} {l : List Tri} (h : Sl TTri c k k2 w v l) :
    Calls Try.prog 36 #[v] w fun e w' => e = .returned (.tuple #[]) ∧ Step (One k) c w c w' ∧ Ok c w' := by
  have hm := h.length_le
  unfold maxLen at hm
  by_cases hl : 0 < l.length
  · obtain ⟨b, off, cap, rfl, hlc, hcm, hgc, hgl⟩ := h.ex hl
    obtain ⟨n, hn⟩ : ∃ n, n = l.length := ⟨_, rfl⟩
    have h0 : ∃ l', l'.length = n ∧ Sl TTri c k k2 w (.slice (some ⟨b, off, none⟩) n cap) l' := ⟨l, hn.symm, by rw [hn]; exact h⟩
    rw [← hn] at hm hlc ⊢
    clear h hn hl
    go_enter Try.func36, Try.ntmps36
    go_wp2
    go_loopw [2] (fun i wr => ∃ (j : Nat) (l' : List Tri), j ≤ n ∧ i = .int .i64 j ∧ Step (One k) c w c wr ∧ Ok c wr ∧ l'.length = n ∧ Sl TTri c k k2 wr (.slice (some ⟨b, off, none⟩) n cap) l') (fun i _ => n - (intOf i).toNat)
    case atStart =>
      obtain ⟨l', h1, h2⟩ := h0
      exact ⟨0, l', Nat.zero_le _, rfl, Step.refl, hok, h1, h2⟩
    case round =>
      obtain ⟨j, l', hj, rfl, s1, o1, hl', r1⟩ := hrel
      have HL := Lib.hid hl'
      by_cases hlt : j < n
      · obtain ⟨x, hx⟩ : ∃ x, l'[j]? = some x := ⟨l'[j]'(by omega), by simp [hl', hlt]⟩
        obtain ⟨y0, y1, y2⟩ := tri_at r1 hx
        clear hx
        have fz : ∀ o, wr.frozen? ⟨b, o, none⟩ = false := fun o => o1.soft b o (by rw [hgc]; exact hk0)
        have f0 := fz (off + j * 3)
        have f1 := fz (off + j * 3 + 1)
        have f2 := fz (off + j * 3 + 2)
        have P := r1.put (vs := triC ⟨-7, 0, false⟩) (x := ⟨-7, 0, false⟩) (by omega) (by rw [hl']; exact hlt) rfl
        have st := setMany_step (b := b) (.inr hgc) (triC ⟨-7, 0, false⟩) wr (off + j * 3) s1
        have ok' := setMany_ok (b := b) (triC ⟨-7, 0, false⟩) wr (off + j * 3) o1
        clear hl' fz
        go_wp2
        exact ⟨⟨j + 1, _, by omega, by go_num, st, ok', by simp [HL.out], P⟩, by simp [intOf]; omega⟩
      · clear hl'
        go_wp2
        first | go_end0 | skip
        exact ⟨rfl, s1, o1⟩
  · have hl : l = [] := by cases l with | nil => rfl | cons a t => exact absurd (by simp) hl
    subst hl
    obtain ⟨a, n, rfl, _⟩ := h.form
    clear h
    go_enter Try.func36, Try.ntmps36
    go_wp2
    refine wp_loop_once ?_
    go_wp2
    first | go_end0 | skip
    exact ⟨rfl, Step.refl, hok⟩
end Go.Proofs.Ytcagfdmafelbkaa
