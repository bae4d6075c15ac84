/- Ledger: many, Of, Strikes, Gone. -/
import Derived.Test.YtcagfdmafelbkaaLed5
namespace Go.Proofs.Ytcagfdmafelbkaa
open Go.RowKit Go.Shelf
attribute [local go_sem] Oper.semAt_some

theorem about_any (v : Value) (who : Int) (w : World) (hv : v.oneCell' = true) :
    Calls Try.prog 58 #[v, .int .i64 who] w fun e w' => e = .returned (.func (.func 78) #[] #[.pointer (some ⟨w.heap.size, 0, none⟩), .pointer (some ⟨w.heap.size + 1, 0, none⟩)]) ∧
      (w.alloc (.cells #[v] 22)).alloc (.cells #[.int .i64 who] 3) = w' := by
  have hmf : ∀ (fn : Fn) (first cap : Array Value) (w : World), (Instr.makeFunc fn first cap).run Try.prog w = .ok (.func fn first cap) w := fun _ _ _ _ => rfl
  cases v <;> simp [Value.oneCell'] at hv
  all_goals
    go_enter Try.func58, Try.ntmps58
    go_wp2
    go_ret
    exact ⟨rfl, rfl⟩

def cnt (l : List Entry) (kind : Int) : Nat := (l.filter (fun e => e.kind == kind)).length
theorem cnt_snoc (l : List Entry) (kind : Int) (x : Entry) : cnt (l ++ [x]) kind = cnt l kind + if x.kind == kind then 1 else 0 := by
  unfold cnt; rw [List.filter_append]; by_cases h : x.kind == kind <;> simp [h]
theorem cnt_le (l : List Entry) (kind : Int) : cnt l kind ≤ l.length := List.length_filter_le _ _

set_option maxRecDepth 100000 in
set_option maxHeartbeats 800000 in
theorem many_any {c : Col} {w : World} (hok : Ok c w) {kr : Nat} {v : Value} {l : List Entry} (hl : Sl TEntry c kr 0 w v l) (who kind : Int) (hm : l.length ≤ 1000000000) :
    Calls Try.prog 60 #[v, .int .i64 who, .int .i64 kind] w fun r w' => r = .returned (.int .i64 (cnt (aboutL l who) kind)) ∧ ∃ c', Step No c w c' w' ∧ Ok c' w' := by
  obtain ⟨kr, hl, hkr⟩ := hl.colour
  obtain ⟨va, vc, rfl, _⟩ := hl.form
  obtain ⟨kn, hkn, hknc⟩ := hok.spare 0
  obtain ⟨kl, hkl, hklc⟩ := hok.spare kn
  refine calls_of_wp_marks Try.func60 rfl ?_
  simp only [Try.ntmps60, List.size_toArray, List.length_cons, List.length_nil, Nat.reduceAdd, Nat.reduceSub, Array.replicate_succ, Array.replicate_zero, List.push_toArray, List.append_toArray, List.nil_append, List.cons_append]
  go_wp2_with (go_at_call 58; refine (about_any _ _ _ rfl).mono ?_; rintro e w' ⟨rfl, rfl⟩)
  have o1 := hok.alloc (.cells #[.int .i64 kind] 3)
  obtain ⟨a2, o2, s2⟩ := newAt o1 [.int .i64 0] 3 kn
  have a1 := (At.new0 hok [.int .i64 kind] 3).keep s2 (fun h => h)
  have a3 := At.new0 o2 [.slice va l.length vc] 22
  have o3 := o2.alloc (.cells #[.slice va l.length vc] 22)
  have a4 := At.new0 o3 [.int .i64 who] 3
  have o4 := o3.alloc (.cells #[.int .i64 who] 3)
  have s4 := (Step.al (c := c) (w := w) (.cells #[.int .i64 kind] 3)).trans (s2.trans ((Step.al (.cells #[.slice va l.length vc] 22)).trans (Step.al (.cells #[.int .i64 who] 3))))
  have b1 := a1.keep ((Step.al (.cells #[.slice va l.length vc] 22)).trans (Step.al (.cells #[.int .i64 who] 3))) (fun h => h)
  have b2 := a2.keep ((Step.al (.cells #[.slice va l.length vc] 22)).trans (Step.al (.cells #[.int .i64 who] 3))) (fun h => h)
  have b3 := a3.keep (Step.al (.cells #[.int .i64 who] 3)) (fun h => h)
  simp only [World.size_alloc] at *
  have hx := (hl.kn s4)
  obtain ⟨W, hW⟩ : ∃ W, (((w.alloc (.cells #[.int .i64 kind] 3)).alloc (.cells #[.int .i64 0] 3)).alloc (.cells #[.slice va l.length vc] 22)).alloc (.cells #[.int .i64 who] 3) = W := ⟨_, rfl⟩
  rw [hW] at a4 o4 s4 b1 b2 b3 hx ⊢
  clear hW a1 a2 a3 o1 o2 o3 s2
  have hkl0 : ∀ b, (Col.put c (w.heap.size + 1) kn) b ≠ kl := by
    intro b; unfold Col.put; split
    · omega
    · exact hklc b
  refine wp_range o4 rfl (enters_of Try.func78 (by kernel_rfl) rfl) (K := One kn) kl hkl0 (by omega) (by show ¬ kl = kn; omega)
    (about_iter b3.c0 a4.c0 ?_ ?_ hx ?_ ?_ hm) ?_
    (fun pre c1 W1 => At c1 W1 w.heap.size 0 [.int .i64 kind] ∧ At c1 W1 (w.heap.size + 1) kn [.int .i64 (cnt pre kind)] ∧ pre.length ≤ 1000000000) (fun _ _ _ _ => False)
    (fun pre x a1 c1 W1 => ∃ i vs Be, TEntry.rd c1 0 W1 vs x ∧ At c1 W1 Be 0 vs ∧ At c1 W1 w.heap.size 0 [.int .i64 kind] ∧ At c1 W1 (w.heap.size + 1) kn [.int .i64 (cnt pre kind)] ∧ pre.length < 1000000000 ∧
      a1 = { tmps := #[.slice va l.length vc, .int .i64 who, .int .i64 kind, undef, undef, .pointer (some ⟨w.heap.size, 0, none⟩), .pointer (some ⟨w.heap.size + 1, 0, none⟩), undef, .pointer (some ⟨Be, 0, none⟩), .slice va l.length vc, .int .i64 who,
        .func (.func 78) #[] #[.pointer (some ⟨w.heap.size + 1 + 1, 0, none⟩), .pointer (some ⟨w.heap.size + 1 + 1 + 1, 0, none⟩)], .int .i64 i, .agg vs.toArray, undef, undef, undef, undef, undef, undef, undef], defers := [] })
    ?_ ?_ ?_ ?_ ?assign ?body ?done ?stop
  · rintro (h | h) <;> rw [b3.col] at h <;> first | exact absurd h (by show ¬ 0 = kn; omega) | omega
  · rintro (h | h) <;> rw [a4.col] at h <;> first | exact absurd h (by show ¬ 0 = kn; omega) | omega
  · rcases hkr with rfl | ⟨b, hb⟩
    · rintro (h | h) <;> first | exact absurd h (by show ¬ 0 = kn; omega) | omega
    · rintro (h | h)
      · exact hknc b (hb.trans h)
      · exact hklc b (hb.trans h)
  · rintro (h | h) <;> first | exact absurd h (by show ¬ 0 = kn; omega) | omega
  · rintro x c1 W1 _ ⟨i, vs, rfl, _⟩; rfl
  · rintro pre c1 W1 c2 W2 ⟨h1, h2, h3⟩ hs _
    exact ⟨h1.keep hs (by show ¬ 0 = kl; omega), h2.keep hs (by show ¬ kn = kl; omega), h3⟩
  · exact fun _ _ _ _ _ _ h => h.elim
  · rintro pre x a1 c1 W1 c2 W2 ⟨i, vs, Be, h1, h2, h3, h4, h5, h6⟩ hs _
    exact ⟨i, vs, Be, TEntry.keep hs (by show ¬ 0 = kl; omega) h1, h2.keep hs (by show ¬ 0 = kl; omega), h3.keep hs (by show ¬ 0 = kl; omega), h4.keep hs (by show ¬ kn = kl; omega), h5, h6⟩
  · exact ⟨b1, b2, by simp⟩
  case assign =>
    rintro lp pre x c1 W1 _ hpre ⟨h1, h2, h3⟩ ho hs ⟨i, vs, rfl, hr⟩ KK hK
    have hr' := hr
    obtain ⟨bv, rfl, hb⟩ := hr
    obtain ⟨ba, bc, rfl, _⟩ := hb.form
    simp only []
    gi_wp2
    obtain ⟨p1, p2, p3⟩ := newAt ho [.int .i64 x.now, .int .i64 x.who, .int .i64 x.kind, .int .i64 x.fault, .int .i64 x.id, .slice ba x.bytes.length bc] 34 0
    have hlp := hpre.length_le
    have hla : (aboutL l who).length ≤ l.length := List.length_filter_le _ _
    refine hK _ _ _ p2 p3.ofNo ⟨i, _, W1.heap.size, Ty.kn hr' p3, p1, h1.keep p3 (fun h => h), h2.keep p3 (fun h => h), by simp at hlp; omega, rfl⟩
  case body =>
    rintro lp pre x a1 c2 W2 ⟨i, vs, Be, h1, h2, h3, h4, h5, rfl⟩ ho
    obtain ⟨bv, rfl, hb⟩ := h1
    have y2 : W2.cell? ⟨Be, 2, none⟩ = some (.int .i64 x.kind) := h2.cells 2 _ rfl
    have y5 := h3.c0
    have y6 := h4.c0
    have yf := h4.fz ho (by omega) 0
    have hset : ∀ u, Step (One kn) c2 W2 c2 (W2.setCell ⟨w.heap.size + 1, 0, none⟩ u) := fun u => Step.refl.setCell (.inr h4.col) u
    have HSET := Lib.hid hset
    clear hset
    have hcl := cnt_le pre kind
    have hcb : (cnt pre kind : Int) ≤ 1000000000 := by omega
    have hsn := Lib.hid (cnt_snoc pre kind x)
    clear hb
    obtain ⟨n, hn⟩ : ∃ n, n = cnt pre kind := ⟨_, rfl⟩
    rw [← hn] at h4 y6 hsn hcb
    clear hn hcl
    by_cases hk : x.kind = kind
    · have hkb : (x.kind == kind) = true := by simpa using hk
      have HK := Lib.hid hkb
      clear hk
      gi_wp2
      refine ⟨c2, ho.setCell _ _, HSET.out _, ?_, ?_, ?_⟩
      · exact h3.keep (HSET.out _) (by show ¬ 0 = kn; omega)
      · rw [hsn.out, HK.out, if_pos rfl]; exact h4.set0
      · simp; omega
    · have hkb : (x.kind == kind) = false := by simpa using hk
      have HK := Lib.hid hkb
      clear hk
      gi_wp2
      refine ⟨c2, ho, Step.refl, h3, ?_, ?_⟩
      · rw [hsn.out, HK.out]; exact h4
      · simp; omega
  case done =>
    rintro D c' W' ⟨h1, h2, h3⟩ ho hs hD hDs hDc
    have y6 := h2.c0
    have yf := h2.fz ho (by omega) 0
    have hne : D ≠ w.heap.size + 1 := by
      intro e; rw [e, h2.col] at hDc; omega
    have q1 : Step (And1 (One kn) kl) c' W' c' (W'.setCell ⟨w.heap.size + 1, 0, none⟩ (.int .i64 (cnt (aboutL l who) kind))) := Step.refl.setCell (.inr (.inl h2.col)) _
    have q2 : Step (And1 (One kn) kl) c' W' c' ((W'.setCell ⟨w.heap.size + 1, 0, none⟩ (.int .i64 (cnt (aboutL l who) kind))).putObj D (.deferred none)) := q1.putObj (.inr (.inr hDc)) _
    have q3 : At c' ((W'.setCell ⟨w.heap.size + 1, 0, none⟩ (.int .i64 (cnt (aboutL l who) kind))).putObj D (.deferred none)) (w.heap.size + 1) kn [.int .i64 (cnt (aboutL l who) kind)] :=
      h2.set0.keep ((Step.refl (K := One kl)).putObj (.inr hDc) _) (by show ¬ kn = kl; omega)
    have q4 : Ok c' ((W'.setCell ⟨w.heap.size + 1, 0, none⟩ (.int .i64 (cnt (aboutL l who) kind))).putObj D (.deferred none)) := (ho.setCell _ _).putObj _ (fun a ha => frozen_def a ha)
    have q5 := q3.c0
    have q6 : (W'.setCell ⟨w.heap.size + 1, 0, none⟩ (.int .i64 (cnt (aboutL l who) kind))).heap[D]? = some (.deferred (some [])) := (Below.heap_setCell _ _ _ _ hne).trans hD
    go_wp2
    refine leaveM q6 rfl (v := .int .i64 (cnt (aboutL l who) kind)) (by simp [results, Try.results60, go_sem, q5]) ⟨rfl, c', ?_, q4⟩
    refine ((s4.ofNo.trans hs).trans q2).drop fun b _ h => ?_
    rcases h with h | h
    · exact hknc b h
    · exact hklc b h
  case stop => exact fun _ _ _ _ _ _ h => h.elim
end Go.Proofs.Ytcagfdmafelbkaa
