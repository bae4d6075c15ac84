/- Pivot: the reference's functions. -/
import Derived.Test.YtcagfdmafelbkaaPiv5
namespace Go.Proofs.Ytcagfdmafelbkaa
open Go.RowKit

theorem height_yes (h : Int) (w : World) (hh : isH h) : Calls Try.prog 68 #[.int .i64 h] w fun r w' => r = .returned (.bool true) ∧ w = w' := by
  obtain ⟨h1, h2⟩ := hh
  go_enter Try.func68, Try.ntmps68
  go_wp2
  go_ret
  exact ⟨rfl, rfl⟩

theorem height_no (h : Int) (w : World) (hh : ¬ isH h) : Calls Try.prog 68 #[.int .i64 h] w fun r w' => r = .returned (.bool false) ∧ w = w' := by
  by_cases h1 : 1 ≤ h
  · have h2 : ¬ h ≤ 1073741824 := fun x => hh ⟨h1, x⟩
    clear hh
    go_enter Try.func68, Try.ntmps68
    go_wp2
    go_ret
    exact ⟨rfl, rfl⟩
  · clear hh
    go_enter Try.func68, Try.ntmps68
    go_wp2
    go_ret
    exact ⟨rfl, rfl⟩

/-! ### Pivot -/
theorem rpivot_range (a b : Int) (w : World) (h : ¬ (isH a ∧ isH b)) : Calls Try.prog 31 #[.int .i64 a, .int .i64 b] w fun r w' => r = .returned (.tuple #[.int .i64 0, .int .i64 3]) ∧ w = w' := by
  by_cases ha : isH a
  · have hb : ¬ isH b := fun x => h ⟨ha, x⟩
    have y1 := height_yes a w ha
    have y2 := height_no b w hb
    clear h ha hb
    go_enter Try.func31, Try.ntmps31
    go_wp2_with fail
    with_reducible refine y1.mono ?_
    rintro e w1 ⟨rfl, rfl⟩
    go_wp2_with fail
    with_reducible refine y2.mono ?_
    rintro e w1 ⟨rfl, rfl⟩
    go_wp2
    go_ret2
    exact ⟨rfl, rfl⟩
  · have y1 := height_no a w ha
    clear h ha
    go_enter Try.func31, Try.ntmps31
    go_wp2_with fail
    with_reducible refine y1.mono ?_
    rintro e w1 ⟨rfl, rfl⟩
    go_wp2
    go_ret2
    exact ⟨rfl, rfl⟩

theorem rpivot_height (a b : Int) (w : World) (ha : isH a) (hb : isH b) (h : b ≤ a) : Calls Try.prog 31 #[.int .i64 a, .int .i64 b] w fun r w' => r = .returned (.tuple #[.int .i64 0, .int .i64 13]) ∧ w = w' := by
  have y1 := height_yes a w ha
  have y2 := height_yes b w hb
  clear ha hb
  go_enter Try.func31, Try.ntmps31
  go_wp2_with fail
  with_reducible refine y1.mono ?_
  rintro e w1 ⟨rfl, rfl⟩
  go_wp2_with fail
  with_reducible refine y2.mono ?_
  rintro e w1 ⟨rfl, rfl⟩
  go_wp2
  go_ret2
  exact ⟨rfl, rfl⟩

theorem rpivot_ok (a b : Int) (w : World) (ha : isH a) (hb : isH b) (h : a < b) : Calls Try.prog 31 #[.int .i64 a, .int .i64 b] w fun r w' => r = .returned (.tuple #[.int .i64 (mid a b), .int .i64 0]) ∧ w = w' := by
  have y1 := height_yes a w ha
  have y2 := height_yes b w hb
  obtain ⟨a1, a2⟩ := ha
  obtain ⟨b1, b2⟩ := hb
  unfold mid
  have h' : ¬ b ≤ a := by omega
  have h2 : 0 ≤ b - a := by omega
  have h3 : b - a ≤ 1073741824 := by omega
  have h4 : 0 ≤ (b - a) / 2 := by omega
  have h5 : (b - a) / 2 ≤ 1073741824 := by omega
  go_enter Try.func31, Try.ntmps31
  go_wp2_with fail
  with_reducible refine y1.mono ?_
  rintro e w1 ⟨rfl, rfl⟩
  go_wp2_with fail
  with_reducible refine y2.mono ?_
  rintro e w1 ⟨rfl, rfl⟩
  go_wp2
  go_ret2
  exact ⟨rfl, rfl⟩


set_option maxHeartbeats 400000 in
theorem copyInts_any {c : Col} {w : World} (hok : Ok c w) {kx kx2 : Nat} (k k2 : Nat) {v : Value} {l : List Int} (hv : Sl (TInt .i64) c kx kx2 w v l) (hlen : l.length ≤ 1000000000) :
    Calls Try.prog 80 #[v] w fun e w' => ∃ v' c', e = .returned v' ∧ Own (TInt .i64) 3 c' k k2 w' v' l ∧ Step No c w c' w' ∧ Ok c' w' := by
  obtain ⟨va, vc, rfl, hva⟩ := hv.form
  have hx := hv.anyI k2
  clear hv hva
  obtain ⟨q, hq, hqc⟩ := hok.spare k2
  have hqk : k2 ≠ q := by omega
  have hq0 : q ≠ 0 := by omega
  obtain ⟨o1, o2, o3⟩ := Own.new0 (TInt .i64) 3 hok q k2
  have hx' := hx.keep o3 (fun h => h) (fun h => h)
  have hml : ([] : List Int).length + l.length ≤ maxLen := by simp [maxLen]; omega
  have hbl : (([] : List Int).length + l.length) * 8 ≤ 140737488355328 := by simp; omega
  clear hx
  go_enter Try.func80, Try.ntmps80
  go_wp2_with (at_builtin; refine wpList_app (TInt .i64) o2 rfl _ _ 54 rfl 3 Try.underlying54 infoInt rfl (by decide) rfl rfl o1 hx' hqk hml hbl ?_; intro v' w' c' a1 a2 a3 _)
  go_ret
  exact ⟨v', c'.turn q k, rfl, a1.turn hqk, ((o3.ofNo.trans a2).turn rfl).own hqc, a3.turn hq0⟩

section
variable {c : Col} {w : World} {k kr b : Nat} {s : Stk}

theorem rtop_any (h : IsSt c k kr w b s) : Calls Try.prog 43 #[.pointer (some ⟨b, 0, none⟩)] w fun r w' => r = .returned (.int .i64 (topL s.l)) ∧ ∃ n, w' = w.drewN n := by
  obtain ⟨v, hv, ho⟩ := h.row
  rcases List.eq_nil_or_concat s.l with hl | ⟨l, x, hl⟩
  · rw [hl] at ho ⊢
    obtain ⟨va, vc, rfl, _⟩ := ho.sl.form
    clear h ho hl
    simp only [List.length_nil] at hv
    go_enter Try.func43, Try.ntmps43
    go_wp2
    go_ret
    exact ⟨rfl, 0, rfl⟩
  · rw [List.concat_eq_append] at hl
    rw [hl] at ho
    rw [hl, topL_snoc]
    have hm := ho.sl.length_le
    unfold maxLen at hm
    obtain ⟨g, off, cap, rfl, hx, _⟩ := int_at ho.sl (j := l.length) (x := x) (by simp)
    clear h ho hl
    obtain ⟨n, hn⟩ : ∃ n, n = l.length := ⟨_, rfl⟩
    rw [← hn] at hx
    have e : (l ++ [x]).length = n + 1 := by simp [hn]
    rw [e] at hv hm
    clear hn e
    have e2 : (((n + 1 : Nat) : Int) == 0) = false := by simp; omega
    have e2' : (((n : Int) + 1) == 0) = false := by simp; omega
    have e3 : IntKind.i64.wrap (n : Int) = (n : Int) := IntWalk.i64_in _ (by omega)
    have e4 : (0 : Int) ≤ (n : Int) := by omega
    have e5 : (n : Int) < ((n + 1 : Nat) : Int) := by omega
    clear hm
    go_enter Try.func43, Try.ntmps43
    go_wp2
    go_quiet (fail)
    go_wp2
    go_ret
    exact ⟨rfl, _, rfl⟩

set_option maxHeartbeats 800000 in
theorem rreset_any (hok : Ok c w) (h : IsSt c k kr w b s) (ht : IntKind.i64.has s.target) (hk0 : k ≠ 0) (hkr : kr ≠ k) :
    Calls Try.prog 73 #[.pointer (some ⟨b, 0, none⟩)] w fun r w' => r = .returned (.tuple #[]) ∧ ∃ c', IsSt c' k kr w' b (resetS s) ∧ Step (One k) c w c' w' ∧ Ok c' w' := by
  obtain ⟨v, hv, ho⟩ := h.row
  have h0 := h.c0
  have h1 := h.c1
  have h2 := h.c2
  have hf : ∀ o, w.frozen? ⟨b, o, none⟩ = false := fun o => hok.soft b o (by rw [h.col]; exact hk0)
  have f0 := hf 0
  have f3 := hf 3
  have hb := h.lt
  have hcol := h.col
  subst hcol
  have ne : ∀ {o o' : Nat}, o ≠ o' → (⟨b, o', none⟩ : Addr) ≠ ⟨b, o, none⟩ := fun h e => by injection e with e1 e2; exact h e2.symm
  have e0 : (w.setCell ⟨b, 0, none⟩ (.int .i64 s.root)).cell? ⟨b, 0, none⟩ = some (.int .i64 s.root) := World.cell?_setCell_same' _ _ _ (by rw [h0]; rfl)
  have oth0 : ∀ o, o ≠ 0 → (w.setCell ⟨b, 0, none⟩ (.int .i64 s.root)).cell? ⟨b, o, none⟩ = w.cell? ⟨b, o, none⟩ := fun o ho => World.cell?_setCell_other _ _ _ _ (ne ho)
  obtain ⟨W2, hW2⟩ : ∃ W2, (w.setCell ⟨b, 0, none⟩ (.int .i64 s.root)).setCell ⟨b, 3, none⟩ (.slice (some ⟨w.heap.size, 0, none⟩) 1 1) = W2 := ⟨_, rfl⟩
  have hz : W2.heap.size = w.heap.size := by rw [← hW2, size_setCell, size_setCell]
  have oth3 : ∀ o, o ≠ 3 → W2.cell? ⟨b, o, none⟩ = (w.setCell ⟨b, 0, none⟩ (.int .i64 s.root)).cell? ⟨b, o, none⟩ := fun o ho => by rw [← hW2]; exact World.cell?_setCell_other _ _ _ _ (ne ho)
  have e3 : W2.cell? ⟨b, 3, none⟩ = some (.slice (some ⟨w.heap.size, 0, none⟩) 1 1) := by rw [← hW2]; exact World.cell?_setCell_same' _ _ _ (by rw [oth0 3 (by decide), hv]; rfl)
  have o2 : Ok c W2 := by rw [← hW2]; exact (hok.setCell _ _).setCell _ _
  have s2 : Step (One (c b)) c w c W2 := by rw [← hW2]; exact ((Step.refl (K := One (c b))).setCell (a := ⟨b, 0, none⟩) (.inr (show One (c b) (c b) from rfl)) _).setCell (a := ⟨b, 3, none⟩) (.inr (show One (c b) (c b) from rfl)) _
  obtain ⟨n1, n2, n3⟩ := Own.new (TInt .i64) 3 o2 kr 0 [[.int .i64 s.target]] [s.target] rfl (by simp [maxLen]) (fun i x hi => by
    have h0 : i = 0 := by have := (List.getElem?_eq_some_iff.1 hi).1; simp at this; omega
    subst h0; simp at hi; subst hi; exact ⟨_, rfl, rfl, ht⟩) (by simp [TInt])
  rw [hz] at n1 n2 n3
  have R : IsSt (c.put w.heap.size kr) (c b) kr (W2.alloc (.cells #[.int .i64 s.target] 3)) b (resetS s) ∧ Step (One (c b)) c w (c.put w.heap.size kr) (W2.alloc (.cells #[.int .i64 s.target] 3)) ∧ Ok (c.put w.heap.size kr) (W2.alloc (.cells #[.int .i64 s.target] 3)) := by
    have hb2 : b < W2.heap.size := by rw [hz]; exact hb
    have q : ∀ o, (W2.alloc (.cells #[.int .i64 s.target] 3)).cell? ⟨b, o, none⟩ = W2.cell? ⟨b, o, none⟩ := fun o => n3.cell hb2 (fun h => h)
    exact ⟨⟨Col.put_other _ _ (by omega), (q 0).trans ((oth3 0 (by decide)).trans e0), (q 1).trans ((oth3 1 (by decide)).trans ((oth0 1 (by decide)).trans h1)), (q 2).trans ((oth3 2 (by decide)).trans ((oth0 2 (by decide)).trans h2)), _, (q 3).trans e3, n1⟩, s2.trans n3.ofNo, n2⟩
  subst hW2
  have H := Lib.hid R
  clear h ho hok hf hkr hk0 n1 n2 n3 o2 s2 R e0 oth0 oth3 e3 hz ne
  go_enter Try.func73, Try.ntmps73
  go_wp2
  go_end0
  exact ⟨rfl, _, H.out⟩

theorem rpush_any (hok : Ok c w) (h : IsSt c k kr w b s) (hk0 : k ≠ 0) (hkr : kr ≠ k) (x : Int) (hx : IntKind.i64.has x) (hlen : s.l.length ≤ 1000000000) :
    Calls Try.prog 72 #[.pointer (some ⟨b, 0, none⟩), .int .i64 x] w fun r w' => r = .returned (.int .i64 (pushE s x)) ∧ ∃ c', IsSt c' k kr w' b (pushS s x) ∧ Step (One k) c w c' w' ∧ Ok c' w' := by
  obtain ⟨v, hv, ho⟩ := h.row
  obtain ⟨va, vc, rfl, _⟩ := ho.sl.form
  by_cases hl : s.l = []
  · have e1 : pushE s x = 11 := by simp [pushE, hl]
    have e2 : pushS s x = s := by simp [pushS, e1]
    rw [e1, e2]
    have H := Lib.hid (And.intro hok h)
    rw [hl] at hv
    simp only [List.length_nil] at hv
    clear hok h e1 e2 hl ho
    go_enter Try.func72, Try.ntmps72
    go_wp2
    go_ret
    exact ⟨rfl, c, H.out.2, Step.refl, H.out.1⟩
  · have y3 := rtop_any h
    have h0 := h.c0
    have hp : 0 < s.l.length := List.length_pos_iff.2 hl
    have z1 : ((s.l.length : Int) == 0) = false := by simp; omega
    by_cases hb : x ≤ s.low ∨ topL s.l ≤ x
    · have e1 : pushE s x = 9 := by simp [pushE, hl, hb]
      have e2 : pushS s x = s := by simp [pushS, e1]
      rw [e1, e2]
      have H := Lib.hid (And.intro hok h)
      clear hok h e1 e2 hl hp ho
      by_cases hb1 : x ≤ s.low
      · clear hb
        go_enter Try.func72, Try.ntmps72
        go_wp2
        go_ret
        exact ⟨rfl, c, H.out.2, Step.refl, H.out.1⟩
      · have hb2 : topL s.l ≤ x := by rcases hb with h | h; exact absurd h hb1; exact h
        clear hb
        go_enter Try.func72, Try.ntmps72
        go_wp2_with fail
        with_reducible refine y3.mono ?_
        rintro e w1 ⟨rfl, n, rfl⟩
        go_wp2
        go_ret
        exact ⟨rfl, c, H.out.2.kn (Step.rf.drewN n), Step.refl.drewN n, H.out.1.drewN n⟩
    · have e1 : pushE s x = 0 := by simp [pushE, hl, hb]
      have e2 : pushS s x = { s with l := s.l ++ [x] } := by simp [pushS, e1]
      rw [e1, e2]
      have hb1 : ¬ x ≤ s.low := fun h => hb (.inl h)
      have hb2 : ¬ topL s.l ≤ x := fun h => hb (.inr h)
      have hcol := h.col
      subst hcol
      obtain ⟨q, hq, hqc⟩ := hok.spare kr
      have y4 := fun n => copyInts_any (hok.drewN n) q 0 (ho.sl.kn (Step.rf.drewN n)) hlen
      have hbl := h.lt
      have hq0 : 0 ≠ q := by omega
      have hxb1 : s.l.length + [x].length ≤ maxLen := by simp [maxLen]; omega
      have hxb2 : (s.l.length + [x].length) * 8 ≤ 140737488355328 := by simp; omega
      have H := Lib.hid (And.intro hok (And.intro h (And.intro hkr (And.intro hk0 (And.intro hqc hq)))))
      clear hok h e1 e2 hl hb hp ho hkr hk0 hqc
      go_enter Try.func72, Try.ntmps72
      go_wp2_with fail
      with_reducible refine y3.mono ?_
      rintro e w1 ⟨rfl, n, rfl⟩
      go_wp2_with fail
      with_reducible refine (y4 n).mono ?_
      rintro e w2 ⟨v', c2, rfl, p1, p2, p3⟩
      obtain ⟨x1, x2, x3⟩ := put_one (T := TInt .i64) (x := x) (vs := [.int .i64 x]) (k2 := 0) p3 ⟨rfl, hx⟩ 3
      have p4 := p1.kn x3
      obtain ⟨ca, cc, rfl, _⟩ := p1.sl.form
      have t3 : Step No c w c2 (w2.alloc (.cells #[.int .i64 x] 3)) := ((Step.rf.drewN n).trans p2).trans x3
      go_wp2_with (at_builtin; refine wpList_app (TInt .i64) x1 rfl _ _ 54 rfl 3 Try.underlying54 infoInt rfl (by decide) rfl rfl p4 x2 hq0 hxb1 hxb2 ?_; rintro v' w' c' b1 b2 b3 -; obtain ⟨av, cv, rfl, _⟩ := b1.sl.form; rw [show (s.l ++ [x]).length = s.l.length + 1 by simp] at b1; have t4 := (t3.ofNo.trans b2).own H.out.2.2.2.2.1; have hcb : c' b = c b := t4.col b hbl (fun h => h); have hf := b3.soft b 3 (by rw [hcb]; exact H.out.2.2.2.1); have hc2 := (t4.cell (b := b) (o := 3) hbl (fun h => h)).trans hv; have T := Lib.hid (And.intro b1 (And.intro b3 (And.intro t4 hcb))); clear b1 b2 b3 t4 hcb)
      go_ret
      obtain ⟨b1, b3, t4, hcb⟩ := T.out
      obtain ⟨hok, h, hkr, hk0, hqc, hq⟩ := H.out
      have hne : c b ≠ q := hqc b
      have d1 : Step (One q) c' w' (c'.turn q kr) w' := (Step.refl (K := One q)).turn rfl
      have d2 := b1.turn (k := kr) (by omega)
      have d3 := b3.turn (q := q) (k := kr) (by omega)
      have d4 : Step No c w (c'.turn q kr) w' := ((t4.ofNo (K := One q)).trans d1).own hqc
      have hcb2 : (c'.turn q kr) b = c b := d4.col b hbl (fun h => h)
      have i4 := h.kn d4
      have oth : ∀ o, o ≠ 3 → (w'.setCell ⟨b, 3, none⟩ (.slice av (s.l.length + 1) cv)).cell? ⟨b, o, none⟩ = w'.cell? ⟨b, o, none⟩ := fun o ho => World.cell?_setCell_other _ _ _ _ (by intro e; injection e with e1 e2; exact ho e2.symm)
      have i5 : IsSt (c'.turn q kr) (c b) kr (w'.setCell ⟨b, 3, none⟩ (.slice av (s.l.length + 1) cv)) b { s with l := s.l ++ [x] } :=
        i4.turned (World.cell?_setCell_same' _ _ _ (by rw [hc2]; rfl)) (d2.set (a := ⟨b, 3, none⟩) (by show (c'.turn q kr) b ≠ kr; rw [hcb2]; exact hkr.symm) (by show (c'.turn q kr) b ≠ 0; rw [hcb2]; exact hk0) _) oth rfl
      exact ⟨rfl, c'.turn q kr, i5, (d4.ofNo (K := One (c b))).setCell (a := ⟨b, 3, none⟩) (.inr (show One (c b) (c b) from rfl)) _, d3.setCell _ _⟩
end
end Go.Proofs.Ytcagfdmafelbkaa
