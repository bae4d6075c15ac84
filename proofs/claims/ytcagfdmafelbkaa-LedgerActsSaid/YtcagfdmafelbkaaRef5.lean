/- The reference's ledger: many, Strikes, Gone. -/
import Derived.Test.YtcagfdmafelbkaaRef4
import Derived.Test.YtcagfdmafelbkaaLed8
import Derived.Test.YtcagfdmafelbkaaKit2
namespace Go.Proofs.Ytcagfdmafelbkaa
open Go.RowKit

theorem cnt_step (l : List Entry) (who kind : Int) {j : Nat} {x : Entry} (hx : l[j]? = some x) :
    cnt (aboutL (l.take (j + 1)) who) kind = cnt (aboutL (l.take j) who) kind + if x.who == who && x.kind == kind then 1 else 0 := by
  have hj := (List.getElem?_eq_some_iff.1 hx).1
  have : l.take (j + 1) = l.take j ++ [x] := by rw [List.take_add_one, hx]; rfl
  rw [this]
  unfold cnt aboutL
  rw [List.filter_append, List.filter_append]
  by_cases h : x.who == who <;> by_cases h2 : x.kind == kind <;> simp [h, h2]

set_option maxRecDepth 100000 in
set_option maxHeartbeats 800000 in
theorem rmany_any {c : Col} {w : World} (hok : Ok c w) {k k2 : Nat} {v : Value} {l : List Entry} (h : Sl TEntry c k k2 w v l) (who kind : Int) :
    Calls Try.prog 61 #[v, .int .i64 who, .int .i64 kind] w fun r w' => r = .returned (.int .i64 (cnt (aboutL l who) kind)) ∧ Step No c w c w' ∧ Ok c w' := by
  have hm := h.length_le
  unfold maxLen at hm
  by_cases hl : 0 < l.length
  · obtain ⟨b, off, cap, rfl, hlc, hcm, hgc, hgl⟩ := h.some hl
    obtain ⟨n, hn⟩ : ∃ n, n = l.length := ⟨_, rfl⟩
    have h' : Sl TEntry c k k2 w (.slice (some ⟨b, off, none⟩) n cap) l := by rw [hn]; exact h
    rw [← hn] at hm hlc ⊢
    have HN := Lib.hid hn
    clear h hn hl
    go_enter Try.func61, Try.ntmps61
    go_wp2
    go_loopw [7, 8] (fun s i wr => ∃ j : Nat, j ≤ n ∧ i = .int .i64 j ∧ s = .int .i64 (cnt (aboutL (l.take j) who) kind) ∧ wr = w) (fun _ i _ => n - (intOf i).toNat)
    case atStart => exact ⟨0, Nat.zero_le _, rfl, rfl, rfl⟩
    case round =>
      obtain ⟨j, hj, rfl, rfl, rfl⟩ := hrel
      by_cases hlt : j < n
      · obtain ⟨x, hx⟩ : ∃ x, l[j]? = some x := ⟨l[j]'(by rw [← HN.out]; exact hlt), by simp [← HN.out, hlt]⟩
        obtain ⟨bv, e1, e2, y0, y1, y2, y3, y4, y5⟩ := entry_at h' hx
        have hst := Lib.hid (cnt_step l who kind hx)
        have hle : cnt (aboutL (l.take j) who) kind ≤ j := by
          refine Nat.le_trans (cnt_le _ _) (Nat.le_trans (List.length_filter_le _ _) ?_)
          simp; omega
        have hcb : ((cnt (aboutL (l.take j) who) kind : Nat) : Int) ≤ 2 ^ 63 - 2 := by omega
        clear hx e1 e2 y0 y3 y4 y5
        obtain ⟨q, hq⟩ : ∃ q, q = cnt (aboutL (l.take j) who) kind := ⟨_, rfl⟩
        rw [← hq] at hst hcb hle ⊢
        clear hq
        have hqw : IntKind.i64.wrap ((q : Int) + 1) = (q : Int) + 1 := IntWalk.i64_in _ (by omega)
        by_cases hw : x.who = who
        · by_cases hk : x.kind = kind
          · have b1 : (x.who == who) = true := by simpa using hw
            have b2 : (x.kind == kind) = true := by simpa using hk
            have HB := Lib.hid (And.intro b1 b2)
            clear hw hk
            go_wp2
            refine ⟨⟨j + 1, by omega, by go_num, ?_, by trivial⟩, by simp [intOf]; omega⟩
            rw [hst.out, HB.out.1, HB.out.2]; simp
          · have b1 : (x.who == who) = true := by simpa using hw
            have b2 : (x.kind == kind) = false := by simpa using hk
            have HB := Lib.hid (And.intro b1 b2)
            clear hw hk
            go_wp2
            refine ⟨⟨j + 1, by omega, by go_num, ?_, by trivial⟩, by simp [intOf]; omega⟩
            rw [hst.out, HB.out.1, HB.out.2]; simp
        · have b1 : (x.who == who) = false := by simpa using hw
          have HB := Lib.hid b1
          clear hw
          go_wp2
          refine ⟨⟨j + 1, by omega, by go_num, ?_, by trivial⟩, by simp [intOf]; omega⟩
          rw [hst.out, HB.out]; simp
      · have hjn : j = l.length := by rw [← HN.out]; omega
        have ht : l.take j = l := by rw [hjn]; exact List.take_length
        rw [ht]
        clear ht hjn
        go_wp2
        go_ret
        exact ⟨rfl, Step.refl, hok⟩
  · have hl : l = [] := by cases l with | nil => rfl | cons a t => exact absurd (by simp) hl
    subst hl
    obtain ⟨a, n, rfl, _⟩ := h.form
    clear h
    go_enter Try.func61, Try.ntmps61
    go_wp2
    refine wp_loop_once ?_
    go_wp2
    go_ret
    exact ⟨rfl, Step.refl, hok⟩

set_option maxRecDepth 100000 in
set_option maxHeartbeats 800000 in
theorem rstrikes_any {c : Col} {w : World} (hok : Ok c w) {k kr b : Nat} {n : Int} {l : List Entry} (hL : IsLed c k kr w b n l) (who : Int) :
    Calls Try.prog 23 #[.pointer (some ⟨b, 0, none⟩), .int .i64 who] w fun r w' => r = .returned (.int .i64 (cnt (aboutL l who) 2)) ∧ Step No c w c w' ∧ Ok c w' := by
  obtain ⟨hcol, hnum, v, hv, hown⟩ := hL
  have z2 := rmany_any hok hown.sl who 2
  obtain ⟨va, vc, rfl, _⟩ := hown.sl.form
  go_enter Try.func23, Try.ntmps23
  go_wp2_with (go_at_call 61; refine z2.mono ?_; rintro e w' ⟨rfl, hst⟩)
  go_ret
  exact ⟨rfl, hst⟩

set_option maxRecDepth 100000 in
set_option maxHeartbeats 800000 in
theorem rgone_any {c : Col} {w : World} (hok : Ok c w) {k kr b : Nat} {n : Int} {l : List Entry} (hL : IsLed c k kr w b n l) (who most : Int) :
    Calls Try.prog 25 #[.pointer (some ⟨b, 0, none⟩), .int .i64 who, .int .i64 most] w fun r w' => r = .returned (.int .i64 (goneL l who most)) ∧ Step No c w c w' ∧ Ok c w' := by
  have HL := Lib.hid hL
  obtain ⟨hcol, hnum, v, hv, hown⟩ := hL
  have z2 := rstrikes_any hok HL.out who
  obtain ⟨va, vc, rfl, _⟩ := hown.sl.form
  have hb := World.block_lt_of_cell? w _ hv
  have g1 := Lib.hid (cnt_big l who 1)
  have g2 := Lib.hid (cnt_big l who 2)
  have g3 := Lib.hid (cnt_big l who 3)
  go_enter Try.func25, Try.ntmps25
  go_wp2_with fail
  refine z2.mono ?_
  rintro e w1 ⟨rfl, s1, o1⟩
  have hv1 := (s1.cell hb (fun h => h)).trans hv
  have z3 := rmany_any o1 (hown.sl.kn s1) who 1
  go_wp2_with fail
  refine z3.mono ?_
  rintro e w2 ⟨rfl, s2, o2⟩
  have hv2 := (s2.cell (Nat.lt_of_lt_of_le hb s1.size) (fun h => h)).trans hv1
  have z4 := rmany_any o2 ((hown.sl.kn s1).kn s2) who 3
  have s12 := s1.trans s2
  by_cases h1 : 0 < cnt (aboutL l who) 1
  · have d1 : decide ((0 : Int) < (cnt (aboutL l who) 1 : Int)) = true := by simpa using h1
    go_wp2_with fail
    go_ret
    exact ⟨by simp [goneL, h1], s12, o2⟩
  · have d1 : decide ((0 : Int) < (cnt (aboutL l who) 1 : Int)) = false := by simpa using h1
    go_wp2_with fail
    refine z4.mono ?_
    rintro e w3 ⟨rfl, s3, o3⟩
    have s13 := s12.trans s3
    by_cases h3 : 0 < cnt (aboutL l who) 3
    · have d3 : decide ((0 : Int) < (cnt (aboutL l who) 3 : Int)) = true := by simpa using h3
      go_wp2_with fail
      go_ret
      exact ⟨by simp [goneL, h1, h3], s13, o3⟩
    · have d3 : decide ((0 : Int) < (cnt (aboutL l who) 3 : Int)) = false := by simpa using h3
      by_cases h2 : 0 < cnt (aboutL l who) 2
      · have d2 : decide ((0 : Int) < (cnt (aboutL l who) 2 : Int)) = true := by simpa using h2
        by_cases hm : most ≤ cnt (aboutL l who) 2
        · have dm : decide (most ≤ (cnt (aboutL l who) 2 : Int)) = true := by simpa using hm
          go_wp2_with fail
          go_ret
          exact ⟨by simp [goneL, h1, h3, h2, hm], s13, o3⟩
        · have dm : decide (most ≤ (cnt (aboutL l who) 2 : Int)) = false := by simpa using hm
          go_wp2_with fail
          go_ret
          exact ⟨by simp [goneL, h1, h3, h2, hm], s13, o3⟩
      · have d2 : decide ((0 : Int) < (cnt (aboutL l who) 2 : Int)) = false := by simpa using h2
        go_wp2_with fail
        go_ret
        exact ⟨by simp [goneL, h1, h3, h2], s13, o3⟩

end Go.Proofs.Ytcagfdmafelbkaa
