/- Ledger: Of. -/
import Derived.Test.YtcagfdmafelbkaaLed7
import Derived.Test.YtcagfdmafelbkaaRnd
namespace Go.Proofs.Ytcagfdmafelbkaa
open Go.RowKit Go.Shelf
attribute [local go_sem] Oper.semAt_some

set_option maxRecDepth 100000 in
set_option maxHeartbeats 1600000 in
theorem of_empty {c : Col} {w : World} (hok : Ok c w) {k kr b : Nat} {n : Int} {l : List Entry} (hL : IsLed c k kr w b n l) (hn : 1 ≤ n) (hm : l.length ≤ 65536) (hlb : ∀ e ∈ l, e.bytes.length ≤ 1000000000) (who : Int) (he : aboutL l who = []) (ka kb : Nat) :
    Calls Try.prog 19 #[.pointer (some ⟨b, 0, none⟩), .int .i64 who] w fun r w' => ∃ v' c', r = .returned v' ∧ Sl TEntry c' ka kb w' v' [] ∧ Step No c w c' w' ∧ Ok c' w' := by
  obtain ⟨hcol, hnum, v, hv, hown⟩ := hL
  have hblt := World.block_lt_of_cell? w _ hv
  obtain ⟨kr, hl, hkr⟩ := hown.sl.colour
  obtain ⟨va, vc, rfl, _⟩ := hl.form
  obtain ⟨kn, hkn, hknc⟩ := hok.spare (max ka kb)
  obtain ⟨q, hq, hqc⟩ := hok.spare kn
  obtain ⟨q2, hq2, hqc2⟩ := hok.spare q
  obtain ⟨kl, hkl, hklc⟩ := hok.spare q2
  obtain ⟨a2, o2, s2⟩ := newAt hok [.slice none 0 0] 22 kn
  have hv2 := (s2.cell hblt (fun h => h)).trans hv
  have z1 := none_no (w.alloc (.cells #[.slice none 0 0] 22)) b n ((s2.cell (World.block_lt_of_cell? w _ hnum) (fun h => h)).trans hnum) hn
  refine calls_of_wp_marks Try.func19 rfl ?_
  simp only [Try.ntmps19, List.size_toArray, List.length_cons, List.length_nil, Nat.reduceAdd, Nat.reduceSub, Array.replicate_succ, Array.replicate_zero, List.push_toArray, List.append_toArray, List.nil_append, List.cons_append]
  go_wp2_with (first | (go_at_call 55; refine z1.mono ?_; rintro e w' ⟨rfl, rfl⟩) | (go_at_call 58; refine (about_any _ _ _ rfl).mono ?_; rintro e w' ⟨rfl, rfl⟩))
  have o3 := o2.alloc (.cells #[.slice va l.length vc] 22)
  have a3 := At.new0 o2 [.slice va l.length vc] 22
  have a4 := At.new0 o3 [.int .i64 who] 3
  have o4 := o3.alloc (.cells #[.int .i64 who] 3)
  have t4 := (Step.al (c := c.put w.heap.size kn) (w := w.alloc (.cells #[.slice none 0 0] 22)) (.cells #[.slice va l.length vc] 22)).trans (Step.al (.cells #[.int .i64 who] 3))
  have s4 := s2.trans t4
  have b2 := a2.keep t4 (fun h => h)
  have b3 := a3.keep (Step.al (.cells #[.int .i64 who] 3)) (fun h => h)
  simp only [World.size_alloc] at *
  have hx := (hl.kn s4)
  obtain ⟨W, hW⟩ : ∃ W, ((w.alloc (.cells #[.slice none 0 0] 22)).alloc (.cells #[.slice va l.length vc] 22)).alloc (.cells #[.int .i64 who] 3) = W := ⟨_, rfl⟩
  rw [hW] at a4 o4 s4 b2 b3 hx ⊢
  clear hW a2 a3 o2 o3 s2 t4 hv2 z1
  have hkl0 : ∀ b, (Col.put c w.heap.size kn) b ≠ kl := by
    intro b; unfold Col.put; split
    · omega
    · exact hklc b
  have hx0 : ¬ And1 (fun j => j = kn ∨ j = q ∨ j = q2) kl 0 := by rintro ((h | h | h) | h) <;> omega
  refine wp_range o4 rfl (enters_of Try.func78 (by kernel_rfl) rfl) (K := fun j => j = kn ∨ j = q ∨ j = q2) kl hkl0 (by omega) (by show ¬ (kl = kn ∨ kl = q ∨ kl = q2); omega)
    (about_iter b3.c0 a4.c0 (by rw [b3.col]; exact hx0) (by rw [a4.col]; exact hx0) hx ?_ hx0 (by omega)) ?_
    (fun pre c1 W1 => ∃ v, At c1 W1 w.heap.size kn [v] ∧ Own TEntry 34 c1 q q2 W1 v (pre.map Entry.kept)) (fun _ _ _ _ => False)
    (fun pre x a1 c1 W1 => ∃ i vs Be v, TEntry.rd c1 0 W1 vs x ∧ At c1 W1 Be 0 vs ∧ At c1 W1 w.heap.size kn [v] ∧ Own TEntry 34 c1 q q2 W1 v (pre.map Entry.kept) ∧ (pre ++ [x]) <+: aboutL l who ∧
      a1 = { tmps := #[.pointer (some ⟨b, 0, none⟩), .int .i64 who, undef, undef, .pointer (some ⟨w.heap.size, 0, none⟩), undef, .pointer (some ⟨Be, 0, none⟩), .pointer (some ⟨b, 0, none⟩), .bool false, .pointer (some ⟨b, 0, none⟩), .pointer (some ⟨b, 0, none⟩), .pointer (some ⟨b, 1, none⟩), .slice va l.length vc, .int .i64 who,
        .func (.func 78) #[] #[.pointer (some ⟨w.heap.size + 1, 0, none⟩), .pointer (some ⟨w.heap.size + 1 + 1, 0, none⟩)], .int .i64 i, .agg vs.toArray, undef, undef, undef, undef, undef, undef], defers := [] })
    ?_ ?_ ?_ ?_ ?assign ?body ?done ?stop
  · rcases hkr with rfl | ⟨b, hb⟩
    · exact hx0
    · rintro ((h | h | h) | h)
      · exact hknc b (hb.trans h)
      · exact hqc b (hb.trans h)
      · exact hqc2 b (hb.trans h)
      · exact hklc b (hb.trans h)
  · rintro x c1 W1 _ ⟨i, vs, rfl, _⟩; rfl
  · rintro pre c1 W1 c2 W2 ⟨v, h1, h2⟩ hs _
    exact ⟨v, h1.keep hs (by show ¬ kn = kl; omega), h2.keep hs (by show ¬ q = kl; omega) (by show ¬ q2 = kl; omega)⟩
  · exact fun _ _ _ _ _ _ h => h.elim
  · rintro pre x a1 c1 W1 c2 W2 ⟨i, vs, Be, v, h1, h2, h3, h4, h5, h6⟩ hs _
    exact ⟨i, vs, Be, v, TEntry.keep hs (by show ¬ 0 = kl; omega) h1, h2.keep hs (by show ¬ 0 = kl; omega), h3.keep hs (by show ¬ kn = kl; omega), h4.keep hs (by show ¬ q = kl; omega) (by show ¬ q2 = kl; omega), h5, h6⟩
  · exact ⟨_, b2, Own.nil _ _ _ _ _ _⟩
  case assign =>
    rintro lp pre x c1 W1 _ hpre ⟨v, h1, h2⟩ ho hs ⟨i, vs, rfl, hr⟩ KK hK
    have hr' := hr
    obtain ⟨bv, rfl, hb⟩ := hr
    obtain ⟨ba, bc, rfl, _⟩ := hb.form
    simp only []
    gi_wp2
    obtain ⟨p1, p2, p3⟩ := newAt ho [.int .i64 x.now, .int .i64 x.who, .int .i64 x.kind, .int .i64 x.fault, .int .i64 x.id, .slice ba x.bytes.length bc] 34 0
    exact hK _ _ _ p2 p3.ofNo ⟨i, _, W1.heap.size, v, Ty.kn hr' p3, p1, h1.keep p3 (fun h => h), h2.kn p3, hpre, rfl⟩
  case body =>
    rintro lp pre x a1 c2 W2 ⟨i, vs, Be, v, h1, h2, h3, h4, h5, rfl⟩ ho
    rw [he] at h5
    have := h5.length_le
    simp at this
  case done =>
    rintro D c' W' ⟨v, h1, h2⟩ ho hs hD hDs hDc
    rw [he] at h2
    obtain ⟨va', vc', rfl, _⟩ := h2.sl.form
    simp only [List.map_nil, List.length_nil] at h1 h2
    have hne : D ≠ w.heap.size := by
      intro e; rw [e, h1.col] at hDc; omega
    have y6 := h1.c0
    have yf := h1.fz ho (by omega) 0
    have q1 : Step (And1 (fun j => j = kn ∨ j = q ∨ j = q2) kl) c' W' c' (W'.setCell ⟨w.heap.size, 0, none⟩ (.slice va' 0 vc')) := Step.refl.setCell (.inr (.inl (.inl h1.col))) _
    have q2' := q1.putObj (b := D) (.inr (.inr hDc)) (.deferred none)
    have q3 : At c' ((W'.setCell ⟨w.heap.size, 0, none⟩ (.slice va' 0 vc')).putObj D (.deferred none)) w.heap.size kn [.slice va' 0 vc'] :=
      h1.set0.keep ((Step.refl (K := One kl)).putObj (.inr hDc) _) (by show ¬ kn = kl; omega)
    have q4 : Ok c' ((W'.setCell ⟨w.heap.size, 0, none⟩ (.slice va' 0 vc')).putObj D (.deferred none)) := (ho.setCell _ _).putObj _ (fun a ha => frozen_def a ha)
    have q5 := q3.c0
    have q6 : (W'.setCell ⟨w.heap.size, 0, none⟩ (.slice va' 0 vc')).heap[D]? = some (.deferred (some [])) := (Below.heap_setCell _ _ _ _ hne).trans hD
    have q7 := (h2.set (a := ⟨w.heap.size, 0, none⟩) (by show c' _ ≠ _; rw [h1.col]; omega) (by show c' _ ≠ _; rw [h1.col]; omega) (.slice va' 0 vc')).keep ((Step.refl (K := One kl)).putObj (b := D) (.inr hDc) (.deferred none)) (by show ¬ q = kl; omega) (by show ¬ q2 = kl; omega)
    have q8 : Step (fun j => (Two q q2 j ∨ j = kn ∨ j = kl)) c w c' ((W'.setCell ⟨w.heap.size, 0, none⟩ (.slice va' 0 vc')).putObj D (.deferred none)) :=
      ((s4.ofNo.trans hs).trans q2').mono (by rintro j ((h | h | h) | h); exact .inr (.inl h); exact .inl (.inl h); exact .inl (.inr h); exact .inr (.inr h))
    have q9 : Step (Two q q2) c w c' ((W'.setCell ⟨w.heap.size, 0, none⟩ (.slice va' 0 vc')).putObj D (.deferred none)) :=
      q8.drop fun b _ h => by rcases h with h | h | h; exact h; exact (hknc b h).elim; exact (hklc b h).elim
    obtain ⟨c9, r1, r2, r3⟩ := q7.out2 q9 q4 hqc hqc2 (by omega) (by omega) (by omega) ka kb (by omega)
    go_wp2
    exact leaveM q6 rfl (v := .slice va' 0 vc') (by simp [results, Try.results19, go_sem, q5]) ⟨_, c9, rfl, r1.sl, r2, r3⟩
  case stop => exact fun _ _ _ _ _ _ h => h.elim
end Go.Proofs.Ytcagfdmafelbkaa
