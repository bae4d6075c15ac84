/- Ledger: Of. -/
import Derived.Test.YtcagfdmafelbkaaLed7
import Derived.Test.YtcagfdmafelbkaaRnd2
namespace Go.Proofs.Ytcagfdmafelbkaa
open Go.RowKit Go.Shelf
attribute [local go_sem] Oper.semAt_some

set_option maxRecDepth 100000 in
set_option maxHeartbeats 1600000 in
theorem of_any {c : Col} {w : World} (hok : Ok c w) {k kr b : Nat} {n : Int} {l : List Entry} (hL : IsLed c k kr w b n l) (hn : 1 ≤ n) (hm : l.length ≤ 65536) (hlb : ∀ e ∈ l, e.bytes.length ≤ 1000000000) (who : Int) (ka kb : Nat) :
    Calls Try.prog 19 #[.pointer (some ⟨b, 0, none⟩), .int .i64 who] w fun r w' => ∃ v' c', r = .returned v' ∧ Sl TEntry c' ka kb w' v' ((aboutL l who).map Entry.kept) ∧ Step No c w c' w' ∧ Ok c' w' := by
  obtain ⟨hcol, hnum, v, hv, hown⟩ := hL
  have hblt := World.block_lt_of_cell? w _ hv
  obtain ⟨kr, hl, hkr⟩ := hown.sl.colour
  obtain ⟨va, vc, rfl, _⟩ := hl.form
  obtain ⟨kn, hkn, hknc⟩ := hok.spare (max ka kb)
  obtain ⟨q, hq, hqc⟩ := hok.spare kn
  obtain ⟨q2, hq2, hqc2⟩ := hok.spare q
  obtain ⟨kl, hkl, hklc⟩ := hok.spare q2
  obtain ⟨a2, o2, s2⟩ := newAt hok [.slice none 0 0] 22 kn
  have hv2 := (s2.cell hblt (fun h => h)).trans hv
  have z1 := none_no (w.alloc (.cells #[.slice none 0 0] 22)) b n ((s2.cell (World.block_lt_of_cell? w _ hnum) (fun h => h)).trans hnum) hn
  refine calls_of_wp_marks Try.func19 rfl ?_
  simp only [Try.ntmps19, List.size_toArray, List.length_cons, List.length_nil, Nat.reduceAdd, Nat.reduceSub, Array.replicate_succ, Array.replicate_zero, List.push_toArray, List.append_toArray, List.nil_append, List.cons_append]
  go_wp2_with (first | (go_at_call 55; refine z1.mono ?_; rintro e w' ⟨rfl, rfl⟩) | (go_at_call 58; refine (about_any _ _ _ rfl).mono ?_; rintro e w' ⟨rfl, rfl⟩))
  have o3 := o2.alloc (.cells #[.slice va l.length vc] 22)
  have a3 := At.new0 o2 [.slice va l.length vc] 22
  have a4 := At.new0 o3 [.int .i64 who] 3
  have o4 := o3.alloc (.cells #[.int .i64 who] 3)
  have t4 := (Step.al (c := c.put w.heap.size kn) (w := w.alloc (.cells #[.slice none 0 0] 22)) (.cells #[.slice va l.length vc] 22)).trans (Step.al (.cells #[.int .i64 who] 3))
  have s4 := s2.trans t4
  have b2 := a2.keep t4 (fun h => h)
  have b3 := a3.keep (Step.al (.cells #[.int .i64 who] 3)) (fun h => h)
  simp only [World.size_alloc] at *
  have hx := (hl.kn s4)
  obtain ⟨W, hW⟩ : ∃ W, ((w.alloc (.cells #[.slice none 0 0] 22)).alloc (.cells #[.slice va l.length vc] 22)).alloc (.cells #[.int .i64 who] 3) = W := ⟨_, rfl⟩
  rw [hW] at a4 o4 s4 b2 b3 hx ⊢
  clear hW a2 a3 o2 o3 s2 t4 hv2 z1
  have hkl0 : ∀ b, (Col.put c w.heap.size kn) b ≠ kl := by
    intro b; unfold Col.put; split
    · omega
    · exact hklc b
  have hx0 : ¬ And1 (fun j => j = kn ∨ j = q ∨ j = q2) kl 0 := by rintro ((h | h | h) | h) <;> omega
  refine wp_range o4 rfl (enters_of Try.func78 (by kernel_rfl) rfl) (K := fun j => j = kn ∨ j = q ∨ j = q2) kl hkl0 (by omega) (by show ¬ (kl = kn ∨ kl = q ∨ kl = q2); omega)
    (about_iter b3.c0 a4.c0 (by rw [b3.col]; exact hx0) (by rw [a4.col]; exact hx0) hx ?_ hx0 (by omega)) ?_
    (fun pre c1 W1 => ∃ v, At c1 W1 w.heap.size kn [v] ∧ Own TEntry 34 c1 q q2 W1 v (pre.map Entry.kept)) (fun _ _ _ _ => False)
    (fun pre x a1 c1 W1 => ∃ i vs Be v, TEntry.rd c1 0 W1 vs x ∧ At c1 W1 Be 0 vs ∧ At c1 W1 w.heap.size kn [v] ∧ Own TEntry 34 c1 q q2 W1 v (pre.map Entry.kept) ∧ (pre ++ [x]) <+: aboutL l who ∧
      a1 = { tmps := #[.pointer (some ⟨b, 0, none⟩), .int .i64 who, undef, undef, .pointer (some ⟨w.heap.size, 0, none⟩), undef, .pointer (some ⟨Be, 0, none⟩), .pointer (some ⟨b, 0, none⟩), .bool false, .pointer (some ⟨b, 0, none⟩), .pointer (some ⟨b, 0, none⟩), .pointer (some ⟨b, 1, none⟩), .slice va l.length vc, .int .i64 who,
        .func (.func 78) #[] #[.pointer (some ⟨w.heap.size + 1, 0, none⟩), .pointer (some ⟨w.heap.size + 1 + 1, 0, none⟩)], .int .i64 i, .agg vs.toArray, undef, undef, undef, undef, undef, undef], defers := [] })
    ?_ ?_ ?_ ?_ ?assign ?body ?done ?stop
  · rcases hkr with rfl | ⟨b, hb⟩
    · exact hx0
    · rintro ((h | h | h) | h)
      · exact hknc b (hb.trans h)
      · exact hqc b (hb.trans h)
      · exact hqc2 b (hb.trans h)
      · exact hklc b (hb.trans h)
  · rintro x c1 W1 _ ⟨i, vs, rfl, _⟩; rfl
  · rintro pre c1 W1 c2 W2 ⟨v, h1, h2⟩ hs _
    exact ⟨v, h1.keep hs (by show ¬ kn = kl; omega), h2.keep hs (by show ¬ q = kl; omega) (by show ¬ q2 = kl; omega)⟩
  · exact fun _ _ _ _ _ _ h => h.elim
  · rintro pre x a1 c1 W1 c2 W2 ⟨i, vs, Be, v, h1, h2, h3, h4, h5, h6⟩ hs _
    exact ⟨i, vs, Be, v, TEntry.keep hs (by show ¬ 0 = kl; omega) h1, h2.keep hs (by show ¬ 0 = kl; omega), h3.keep hs (by show ¬ kn = kl; omega), h4.keep hs (by show ¬ q = kl; omega) (by show ¬ q2 = kl; omega), h5, h6⟩
  · exact ⟨_, b2, Own.nil _ _ _ _ _ _⟩
  case assign =>
    rintro lp pre x c1 W1 _ hpre ⟨v, h1, h2⟩ ho hs ⟨i, vs, rfl, hr⟩ KK hK
    have hr' := hr
    obtain ⟨bv, rfl, hb⟩ := hr
    obtain ⟨ba, bc, rfl, _⟩ := hb.form
    simp only []
    gi_wp2
    obtain ⟨p1, p2, p3⟩ := newAt ho [.int .i64 x.now, .int .i64 x.who, .int .i64 x.kind, .int .i64 x.fault, .int .i64 x.id, .slice ba x.bytes.length bc] 34 0
    exact hK _ _ _ p2 p3.ofNo ⟨i, _, W1.heap.size, v, Ty.kn hr' p3, p1, h1.keep p3 (fun h => h), h2.kn p3, hpre, rfl⟩
  case body =>
    rintro lp pre x a1 c2 W2 ⟨i, vs, Be, v, h1, h2, h3, h4, h5, rfl⟩ ho
    have h1' := h1
    obtain ⟨bv, rfl, hb⟩ := h1
    obtain ⟨ba, bc, rfl, _⟩ := hb.form
    obtain ⟨oa, oc, hoo, _⟩ := h4.sl.form
    rw [List.length_map] at hoo
    subst hoo
    gi_wp2
    have c0 : W2.drew.cell? ⟨w.heap.size, 0, none⟩ = some (.slice oa pre.length oc) := h3.c0
    have e0 : W2.drew.cell? ⟨Be, 0, none⟩ = some (.int .i64 x.now) := h2.cells 0 _ rfl
    have e1 : W2.drew.cell? ⟨Be, 1, none⟩ = some (.int .i64 x.who) := h2.cells 1 _ rfl
    have e2 : W2.drew.cell? ⟨Be, 2, none⟩ = some (.int .i64 x.kind) := h2.cells 2 _ rfl
    have e3 : W2.drew.cell? ⟨Be, 3, none⟩ = some (.int .i64 x.fault) := h2.cells 3 _ rfl
    have e4 : W2.drew.cell? ⟨Be, 4, none⟩ = some (.int .i64 x.id) := h2.cells 4 _ rfl
    have e5 : W2.drew.cell? ⟨Be, 5, none⟩ = some (.slice ba x.bytes.length bc) := h2.cells 5 _ rfl
    refine region_roundM (fun W => W.cell? ⟨w.heap.size, 0, none⟩ = some (.slice oa pre.length oc) ∧ W.cell? ⟨Be, 0, none⟩ = some (.int .i64 x.now) ∧ W.cell? ⟨Be, 1, none⟩ = some (.int .i64 x.who) ∧ W.cell? ⟨Be, 2, none⟩ = some (.int .i64 x.kind) ∧ W.cell? ⟨Be, 3, none⟩ = some (.int .i64 x.fault) ∧ W.cell? ⟨Be, 4, none⟩ = some (.int .i64 x.id) ∧ W.cell? ⟨Be, 5, none⟩ = some (.slice ba x.bytes.length bc)) (fun j => decide (j < 5))
      (by kernel_rfl) (by kernel_rfl) (by rintro ⟨_, _, h⟩; exact h) ?_
    have hS : (fun W : World => W.cell? ⟨w.heap.size, 0, none⟩ = some (.slice oa pre.length oc) ∧ W.cell? ⟨Be, 0, none⟩ = some (.int .i64 x.now) ∧ W.cell? ⟨Be, 1, none⟩ = some (.int .i64 x.who) ∧ W.cell? ⟨Be, 2, none⟩ = some (.int .i64 x.kind) ∧ W.cell? ⟨Be, 3, none⟩ = some (.int .i64 x.fault) ∧ W.cell? ⟨Be, 4, none⟩ = some (.int .i64 x.id) ∧ W.cell? ⟨Be, 5, none⟩ = some (.slice ba x.bytes.length bc)) W2.drew := ⟨c0, e0, e1, e2, e3, e4, e5⟩
    refine wpAnyM.take (i := 0) (v := .slice oa pre.length oc) rfl (by kernel_rfl) (by kernel_rfl) (by kernel_rfl) (by kernel_rfl) (fun _ _ _ h => h) (Or.inl ⟨by rfl, ?_⟩) hS ?_
    · rintro W ⟨g0, g1, g2, g3, g4, g5, g6⟩
      go_simp
    refine wpAnyM.take (i := 1) (v := .agg #[.int .i64 x.now, .int .i64 x.who, .int .i64 x.kind, .int .i64 x.fault, .int .i64 x.id, .slice ba x.bytes.length bc]) rfl (by kernel_rfl) (by kernel_rfl) (by kernel_rfl) (by kernel_rfl) (fun _ _ _ h => h) (Or.inl ⟨by rfl, ?_⟩) hS ?_
    · rintro W ⟨g0, g1, g2, g3, g4, g5, g6⟩
      go_simp
    clear c0 e0 e1 e2 e3 e4 e5
    (try simp only [Act.put, List.setIfInBounds_toArray, List.set_cons_zero, List.set_cons_succ])
    clear hS
    refine wpAnyM.one (i := 2) (by kernel_rfl) rfl (fun K hK => ?_)
    go_simp
    have hmem : x ∈ l := (List.mem_filter.1 (h5.subset (by simp : x ∈ pre ++ [x]))).1
    refine (kept_any (ho.drew) q2 (Ty.kn h1' (Step.rf.drew)) (hlb x hmem)).mono ?_
    rintro r w1 ⟨vs', c1, rfl, ⟨bv', rfl, a1⟩, a2, a3⟩
    have st1 : Step No c2 W2 c1 w1 := (Step.rf.drew).trans a2
    have g3 := h3.keep st1 (fun h => h)
    have g2 := h2.keep st1 (fun h => h)
    have g4 := h4.kn st1
    obtain ⟨x1, x2, x3⟩ := put_one (T := TEntry) (x := x.kept) a3 ⟨bv', rfl, a1⟩ 34
    obtain ⟨ba', bc', rfl, _⟩ := a1.form
    refine hK.out _ _ (fun _ => ⟨g3.c0, g2.cells 0 _ rfl, g2.cells 1 _ rfl, g2.cells 2 _ rfl, g2.cells 3 _ rfl, g2.cells 4 _ rfl, g2.cells 5 _ rfl⟩) ?_
    clear hK
    (try simp only [Act.put, List.setIfInBounds_toArray, List.set_cons_zero, List.set_cons_succ])
    refine wpAnyM.one (i := 3) (by kernel_rfl) rfl (fun K hK => ?_)
    go_simp
    have g3' := g3.keep x3 (fun h => h)
    have g2' := g2.keep x3 (fun h => h)
    have g4' := g4.kn x3
    refine hK.out _ _ (fun _ => ⟨g3'.c0, g2'.cells 0 _ rfl, g2'.cells 1 _ rfl, g2'.cells 2 _ rfl, g2'.cells 3 _ rfl, g2'.cells 4 _ rfl, g2'.cells 5 _ rfl⟩) ?_
    clear hK
    (try simp only [Act.put, List.setIfInBounds_toArray, List.set_cons_zero, List.set_cons_succ])
    refine wpAnyM.one (i := 4) (by kernel_rfl) rfl (fun K hK => ?_)
    have hple := h5.length_le
    have hall : (aboutL l who).length ≤ l.length := List.length_filter_le _ _
    simp at hple
    refine step_app TEntry x1 rfl _ _ 22 rfl 34 Try.underlying22 infoEntry rfl (by decide) rfl rfl g4' x2 (by omega) (by simp [maxLen]; omega) (by simp; omega) ?_
    intro v' w3 c3 b1 b2 b3 _
    obtain ⟨va', vc', rfl, _⟩ := b1.sl.form
    have hqn : ¬ One q kn := by show ¬ kn = q; omega
    have hq0 : ¬ One q 0 := by show ¬ 0 = q; omega
    have g3'' := g3'.keep b2 hqn
    have g2'' := g2'.keep b2 hq0
    refine hK.out _ _ (fun _ => ⟨g3''.c0, g2''.cells 0 _ rfl, g2''.cells 1 _ rfl, g2''.cells 2 _ rfl, g2''.cells 3 _ rfl, g2''.cells 4 _ rfl, g2''.cells 5 _ rfl⟩) ?_
    clear hK
    (try simp only [Act.put, List.setIfInBounds_toArray, List.set_cons_zero, List.set_cons_succ])
    refine wpAnyM.one (i := 5) (by kernel_rfl) rfl (fun K hK => ?_)
    have hkn0 : kn ≠ 0 := by omega
    have d0 := g3''.c0
    have d1 := g3''.fz b3 hkn0 0
    go_simp
    refine hK.out _ _ (fun h => by simp at h) ?_
    refine wpAnyM.done (by kernel_rfl) ?_ _
    have hst : Step (One kn) c3 w3 c3 (w3.setCell ⟨w.heap.size, 0, none⟩ (.slice va' (pre.length + 1) vc')) := Step.refl.setCell (.inr g3''.col) _
    refine ⟨c3, ?_, ?_, .slice va' (pre.length + 1) vc', ?_, ?_⟩
    · exact b3.setCell _ _
    · exact ((((st1.trans x3).ofNo.trans b2).mono (fun j h => .inr (.inl h))).setCell (.inr (.inl h3.col)) _)
    · exact g3''.set0
    · have := b1.keep hst (by show ¬ q = kn; omega) (by show ¬ q2 = kn; omega)
      simpa using this
  case done =>
    rintro D c' W' ⟨v, h1, h2⟩ ho hs hD hDs hDc
    have y6 := h1.c0
    have yf := h1.fz ho (by omega) 0
    have hne : D ≠ w.heap.size := by
      intro e; rw [e, h1.col] at hDc; omega
    obtain ⟨oa, oc, hoo, _⟩ := h2.sl.form
    rw [List.length_map] at hoo
    subst hoo
    go_wp2
    have q1 : Step (Two kn kl) c' W' c' (W'.setCell ⟨w.heap.size, 0, none⟩ (.slice oa (aboutL l who).length oc)) := Step.refl.setCell (.inr (.inl h1.col)) _
    have q6 : (W'.setCell ⟨w.heap.size, 0, none⟩ (.slice oa (aboutL l who).length oc)).heap[D]? = some (.deferred (some [])) := (Below.heap_setCell _ _ _ _ hne).trans hD
    have q2' : Step (Two kn kl) c' W' c' ((W'.setCell ⟨w.heap.size, 0, none⟩ (.slice oa (aboutL l who).length oc)).putObj D (.deferred none)) := q1.putObj (.inr (.inr hDc)) _
    have q3 : At c' ((W'.setCell ⟨w.heap.size, 0, none⟩ (.slice oa (aboutL l who).length oc)).putObj D (.deferred none)) w.heap.size kn [.slice oa (aboutL l who).length oc] :=
      h1.set0.keep ((Step.refl (K := One kl)).putObj (.inr hDc) _) (by show ¬ kn = kl; omega)
    have q4 : Ok c' ((W'.setCell ⟨w.heap.size, 0, none⟩ (.slice oa (aboutL l who).length oc)).putObj D (.deferred none)) := (ho.setCell _ _).putObj _ (fun a ha => frozen_def a ha)
    have q5 := q3.c0
    have h4 := h2.keep q2' (by show ¬ (q = kn ∨ q = kl); omega) (by show ¬ (q2 = kn ∨ q2 = kl); omega)
    have hA : Step (And1 (fun j => j = kn ∨ j = q ∨ j = q2) kl) c w c' ((W'.setCell ⟨w.heap.size, 0, none⟩ (.slice oa (aboutL l who).length oc)).putObj D (.deferred none)) :=
      (s4.ofNo.trans hs).trans (q2'.mono fun j h => by rcases h with h | h; exact .inl (.inl h); exact .inr h)
    refine leaveM q6 rfl (v := .slice oa (aboutL l who).length oc) (by simp [results, Try.results19, go_sem, q5]) ⟨_, (c'.turn q ka).turn q2 kb, rfl, ?_, ?_, (q4.turn (by omega)).turn (by omega)⟩
    · exact ((h4.turn (by omega)).turn2 (by omega)).sl
    · refine ((hA.turn (.inl (.inr (.inl rfl)))).turn (.inl (.inr (.inr rfl)))).drop fun b _ h => ?_
      rcases h with (h | h | h) | h
      · exact hknc b h
      · exact hqc b h
      · exact hqc2 b h
      · exact hklc b h
  case stop => exact fun _ _ _ _ _ _ h => h.elim
end Go.Proofs.Ytcagfdmafelbkaa
