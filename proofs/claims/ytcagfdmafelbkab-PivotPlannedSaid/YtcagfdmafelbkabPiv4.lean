/- Pivot: Heights, Push, Pop, Split, New. -/
import Derived.Test.YtcagfdmafelbkabPiv3
set_option linter.unusedVariables false
set_option linter.unusedSimpArgs false
namespace Go.Proofs.Ytcagfdmafelbkab
open Go.RowKit

/-! ### What is answered -/
def pushE (s : Stk) (h : Int) : Int := if s.l = [] then 11 else if h ≤ s.low ∨ topL s.l ≤ h then 9 else 0
def pushS (s : Stk) (h : Int) : Stk := if pushE s h = 0 then { s with l := s.l ++ [h] } else s
def popE (s : Stk) : Int := if s.l = [] then 11 else 0
def popH (s : Stk) : Int := if s.l = [] then 0 else topL s.l
def popS (s : Stk) : Stk := if s.l = [] then s else { s with low := topL s.l, l := s.l.dropLast }
def splitE (s : Stk) : Int := if s.l = [] ∨ topL s.l = s.low + 1 then 11 else 0
def splitH (s : Stk) : Int := if s.l = [] ∨ topL s.l = s.low + 1 then 0 else mid s.low (topL s.l)
def splitS (s : Stk) : Stk := if s.l = [] ∨ topL s.l = s.low + 1 then s else { s with l := s.l ++ [mid s.low (topL s.l)] }
def resetS (s : Stk) : Stk := { s with low := s.root, l := [s.target] }

structure Good (s : Stk) : Prop where
  root : isH s.root
  target : isH s.target
  lt : s.root < s.target
  low : isH s.low
  all : ∀ x ∈ s.l, s.low < x ∧ x ≤ 1073741824
  desc : s.l.Pairwise (· > ·)

theorem topL_mem {l : List Int} (h : l ≠ []) : topL l ∈ l := by
  rcases List.eq_nil_or_concat l with rfl | ⟨l', x, rfl⟩
  · exact absurd rfl h
  · rw [List.concat_eq_append, topL_snoc]; simp

theorem Good.top {s : Stk} (g : Good s) (h : s.l ≠ []) : isH (topL s.l) ∧ s.low < topL s.l := by
  have := g.all _ (topL_mem h)
  have := g.low.1
  exact ⟨⟨by omega, by omega⟩, by omega⟩

theorem snoc_desc {l : List Int} {h : Int} (hd : l.Pairwise (· > ·)) (hl : ∀ x ∈ l, x > topL l ∨ x = topL l) (hh : h < topL l) : (l ++ [h]).Pairwise (· > ·) := by
  rw [List.pairwise_append]
  refine ⟨hd, by simp, fun a ha b hb => ?_⟩
  simp at hb; subst hb
  rcases hl a ha with h | h <;> omega

theorem desc_top {l : List Int} (hd : l.Pairwise (· > ·)) : ∀ x ∈ l, x > topL l ∨ x = topL l := by
  intro x hx
  rcases List.eq_nil_or_concat l with rfl | ⟨l', y, rfl⟩
  · simp at hx
  · rw [List.concat_eq_append] at *
    rw [topL_snoc]
    rw [List.pairwise_append] at hd
    rw [List.mem_append, List.mem_singleton] at hx
    rcases hx with hx | rfl
    · exact .inl (hd.2.2 x hx y (by simp))
    · exact .inr rfl

theorem Good.snoc {s : Stk} (g : Good s) (h : Int) (h1 : s.low < h) (h2 : h < topL s.l) (h3 : s.l ≠ []) : Good { s with l := s.l ++ [h] } :=
  ⟨g.root, g.target, g.lt, g.low, fun x hx => by
    rw [List.mem_append, List.mem_singleton] at hx
    rcases hx with hx | rfl
    · exact g.all x hx
    · have := (g.top h3).1.2; exact ⟨h1, by omega⟩, snoc_desc g.desc (desc_top g.desc) h2⟩

theorem Good.push {s : Stk} (g : Good s) (h : Int) : Good (pushS s h) := by
  unfold pushS pushE
  by_cases h1 : s.l = []
  · simp [h1]; exact g
  · by_cases h2 : h ≤ s.low ∨ topL s.l ≤ h
    · simp [h1, h2]; exact g
    · simp [h1, h2]; exact g.snoc h (by omega) (by omega) h1

theorem Good.pop {s : Stk} (g : Good s) : Good (popS s) := by
  unfold popS
  by_cases h1 : s.l = []
  · simp [h1]; exact g
  · simp only [h1, if_false]
    refine ⟨g.root, g.target, g.lt, (g.top h1).1, fun x hx => ?_, ?_⟩
    · have hx' := (List.dropLast_sublist _).subset hx
      refine ⟨?_, (g.all x hx').2⟩
      rcases List.eq_nil_or_concat s.l with hl | ⟨l', y, hl⟩
      · exact absurd hl h1
      · rw [List.concat_eq_append] at hl
        have hd := g.desc
        simp only [hl] at hx hd ⊢
        rw [topL_snoc]
        rw [List.dropLast_concat] at hx
        rw [List.pairwise_append] at hd
        exact hd.2.2 x hx y (by simp)
    · exact g.desc.sublist (List.dropLast_sublist _)

theorem mid_lt {a b : Int} (h : a < b) (h1 : b ≠ a + 1) : a < mid a b ∧ mid a b < b := by unfold mid; omega

theorem Good.split {s : Stk} (g : Good s) : Good (splitS s) := by
  unfold splitS
  by_cases h1 : s.l = [] ∨ topL s.l = s.low + 1
  · simp only [h1, if_true]; exact g
  · simp only [h1, if_false]
    have h2 : s.l ≠ [] := fun h => h1 (.inl h)
    have h3 := mid_lt (g.top h2).2 (fun h => h1 (.inr h))
    exact g.snoc _ h3.1 h3.2 h2

theorem Good.reset {s : Stk} (g : Good s) : Good (resetS s) :=
  ⟨g.root, g.target, g.lt, g.root, fun x hx => by
    simp only [resetS, List.mem_singleton] at hx; subst hx; exact ⟨g.lt, g.target.2⟩, by simp [resetS]⟩

theorem isH.has {h : Int} (hh : isH h) : IntKind.i64.has h := by
  obtain ⟨h1, h2⟩ := hh
  exact ⟨by show (-9223372036854775808 : Int) ≤ h; omega, by show h ≤ (9223372036854775807 : Int); omega⟩

/-! ### Clone -/
set_option maxHeartbeats 400000 in
theorem clone_ints {c : Col} {w : World} (hok : Ok c w) {kx kx2 : Nat} (k k2 : Nat) {v : Value} {l : List Int} (hv : Sl (TInt .i64) c kx kx2 w v l) (hlen : l.length ≤ 1000000000) :
    Calls Try.prog 30 #[v] w fun e w' => ∃ v' c', e = .returned v' ∧ Own (TInt .i64) 3 c' k k2 w' v' l ∧ Step No c w c' w' ∧ Ok c' w' := by
  have hn := fun (w : World) a n c => Lib.run_eql_slice_nil (P := Try.prog) w 22 3 a n c 0 0 Try.underlying22
  obtain ⟨va, vc, rfl, hva⟩ := hv.form
  cases va with
  | none =>
    obtain ⟨rfl, rfl⟩ := hva rfl
    clear hv hva hlen
    simp only [List.length_nil]
    go_enter Try.func30, Try.ntmps30
    go_wp2
    go_ret
    exact ⟨_, c, rfl, Own.nil _ _ _ _ _ _, Step.refl, hok⟩
  | some ad =>
    have hx := hv.anyI k2
    clear hv hva
    obtain ⟨q, hq, hqc⟩ := hok.spare k2
    have hqk : k2 ≠ q := by omega
    have hq0 : q ≠ 0 := by omega
    obtain ⟨o1, o2, o3⟩ := Own.new0 (TInt .i64) 3 hok q k2
    have hx' := hx.keep o3 (fun h => h) (fun h => h)
    have hml : ([] : List Int).length + l.length ≤ maxLen := by simp [maxLen]; omega
    have hbl : (([] : List Int).length + l.length) * 8 ≤ 140737488355328 := by simp; omega
    clear hx
    go_enter Try.func30, Try.ntmps30
    go_wp2_with (at_builtin; refine wpList_app (TInt .i64) o2 rfl _ _ 22 rfl 3 Try.underlying22 infoInt rfl (by decide) rfl rfl o1 hx' hqk hml hbl ?_; intro v' w' c' a1 a2 a3 _)
    go_ret
    exact ⟨v', c'.turn q k, rfl, a1.turn hqk, ((o3.ofNo.trans a2).turn rfl).own hqc, a3.turn hq0⟩

section
variable {c : Col} {w : World} {k kr b : Nat} {s : Stk}

theorem heights_any (hok : Ok c w) (h : IsSt c k kr w b s) (hr : 1 ≤ s.root) (hlen : s.l.length ≤ 1000000000) (ka : Nat) :
    Calls Try.prog 11 #[.pointer (some ⟨b, 0, none⟩)] w fun r w' => ∃ v' c', r = .returned v' ∧ Own (TInt .i64) 3 c' ka 0 w' v' s.l ∧ Step No c w c' w' ∧ Ok c' w' := by
  have y1 := stnone_no h.c1 hr
  obtain ⟨v, hv, ho⟩ := h.row
  have y2 := clone_ints hok ka 0 ho.sl hlen
  obtain ⟨va, vc, rfl, _⟩ := ho.sl.form
  clear h ho
  go_enter Try.func11, Try.ntmps11
  go_wp2_with fail
  with_reducible refine y1.mono ?_
  rintro e w1 ⟨rfl, rfl⟩
  go_wp2_with fail
  with_reducible refine y2.mono ?_
  rintro e w1 ⟨v', c', rfl, a1, a2, a3⟩
  go_wp2
  go_ret
  exact ⟨v', c', rfl, a1, a2, a3⟩

theorem push_any (hok : Ok c w) (h : IsSt c k kr w b s) (hr : 1 ≤ s.root) (hk0 : k ≠ 0) (hr0 : kr ≠ 0) (hkr : kr ≠ k) (x : Int) (hx : IntKind.i64.has x) (hlen : s.l.length ≤ 1000000000) :
    Calls Try.prog 17 #[.pointer (some ⟨b, 0, none⟩), .int .i64 x] w fun r w' => r = .returned (.int .i64 (pushE s x)) ∧ ∃ c', IsSt c' k kr w' b (pushS s x) ∧ Step (Two k kr) c w c' w' ∧ Ok c' w' := by
  have y1 := stnone_no h.c1 hr
  by_cases hl : s.l = []
  · have y2 := done_yes h hr hl
    have e1 : pushE s x = 11 := by simp [pushE, hl]
    have e2 : pushS s x = s := by simp [pushS, e1]
    rw [e1, e2]
    have H := Lib.hid (And.intro hok h)
    clear hok h e1 e2 hl
    go_enter Try.func17, Try.ntmps17
    go_wp2_with fail
    with_reducible refine y1.mono ?_
    rintro e w1 ⟨rfl, rfl⟩
    go_wp2_with fail
    with_reducible refine y2.mono ?_
    rintro e w1 ⟨rfl, rfl⟩
    go_wp2
    go_ret
    exact ⟨rfl, c, H.out.2, Step.refl, H.out.1⟩
  · have y2 := done_no h hr hl
    have y3 := sttop_any h hr
    have h0 := h.c0
    by_cases hb : x ≤ s.low ∨ topL s.l ≤ x
    · have e1 : pushE s x = 9 := by simp [pushE, hl, hb]
      have e2 : pushS s x = s := by simp [pushS, e1]
      rw [e1, e2]
      have H := Lib.hid (And.intro hok h)
      clear hok h e1 e2 hl
      by_cases hb1 : x ≤ s.low
      · clear hb
        go_enter Try.func17, Try.ntmps17
        go_wp2_with fail
        with_reducible refine y1.mono ?_
        rintro e w1 ⟨rfl, rfl⟩
        go_wp2_with fail
        with_reducible refine y2.mono ?_
        rintro e w1 ⟨rfl, rfl⟩
        go_wp2
        go_ret
        exact ⟨rfl, c, H.out.2, Step.refl, H.out.1⟩
      · have hb2 : topL s.l ≤ x := by rcases hb with h | h; exact absurd h hb1; exact h
        clear hb
        go_enter Try.func17, Try.ntmps17
        go_wp2_with fail
        with_reducible refine y1.mono ?_
        rintro e w1 ⟨rfl, rfl⟩
        go_wp2_with fail
        with_reducible refine y2.mono ?_
        rintro e w1 ⟨rfl, rfl⟩
        go_wp2_with fail
        with_reducible refine y3.mono ?_
        rintro e w1 ⟨rfl, n, rfl⟩
        go_wp2
        go_ret
        exact ⟨rfl, c, H.out.2.kn (Step.rf.drewN n), Step.refl.drewN n, H.out.1.drewN n⟩
    · have e1 : pushE s x = 0 := by simp [pushE, hl, hb]
      have e2 : pushS s x = { s with l := s.l ++ [x] } := by simp [pushS, e1]
      rw [e1, e2]
      have hb1 : ¬ x ≤ s.low := fun h => hb (.inl h)
      have hb2 : ¬ topL s.l ≤ x := fun h => hb (.inr h)
      obtain ⟨v, hv, ho⟩ := h.row
      have hcol := h.col
      subst hcol
      have y4 := fun n => hpush_any (hok.drewN n) (b := b) (o := 3) (k := kr) (k2 := 0) hk0 hr0 hkr (fun e => hr0 e.symm) (fun e => hk0 e.symm) (v := v) hv (ho.kn (Step.rf.drewN n)) hx hlen
      have H := Lib.hid (And.intro hok (And.intro h ho))
      clear hok h e1 e2 hl hb ho hv hkr hk0 hr0
      go_enter Try.func17, Try.ntmps17
      go_wp2_with fail
      with_reducible refine y1.mono ?_
      rintro e w1 ⟨rfl, rfl⟩
      go_wp2_with fail
      with_reducible refine y2.mono ?_
      rintro e w1 ⟨rfl, rfl⟩
      go_wp2_with fail
      with_reducible refine y3.mono ?_
      rintro e w1 ⟨rfl, n, rfl⟩
      go_wp2_with fail
      with_reducible refine (y4 n).mono ?_
      rintro e w2 ⟨rfl, v', c', p1, p2, p3, p4, p5, p6⟩
      go_wp2
      go_ret
      exact ⟨rfl, c', H.out.2.1.turned p1 p2 p5 p6, (Step.refl.drewN n).trans p3, p4⟩

theorem pop_any (hok : Ok c w) (h : IsSt c k kr w b s) (hr : 1 ≤ s.root) (hk0 : k ≠ 0) (hr0 : kr ≠ 0) (hkr : kr ≠ k) :
    Calls Try.prog 10 #[.pointer (some ⟨b, 0, none⟩)] w fun r w' => r = .returned (.tuple #[.int .i64 (popH s), .int .i64 (popE s)]) ∧ IsSt c k kr w' b (popS s) ∧ Step (One k) c w c w' ∧ Ok c w' := by
  have y1 := stnone_no h.c1 hr
  obtain ⟨v, hv, ho⟩ := h.row
  by_cases hl : s.l = []
  · have y2 := hpull_none hl hv ho.sl
    have e1 : popE s = 11 := by simp [popE, hl]
    have e2 : popS s = s := by simp [popS, hl]
    have e3 : popH s = 0 := by simp [popH, hl]
    rw [e1, e2, e3]
    have H := Lib.hid (And.intro hok h)
    clear hok h e1 e2 e3 hl ho hv
    go_enter Try.func10, Try.ntmps10
    go_wp2_with fail
    with_reducible refine y1.mono ?_
    rintro e w1 ⟨rfl, rfl⟩
    go_wp2_with fail
    with_reducible refine y2.mono ?_
    rintro e w1 ⟨rfl, rfl⟩
    go_wp2
    go_ret2
    exact ⟨rfl, H.out.2, Step.refl, H.out.1⟩
  · rcases List.eq_nil_or_concat s.l with hl' | ⟨l, x, hl'⟩
    · exact absurd hl' hl
    rw [List.concat_eq_append] at hl'
    have e1 : popE s = 0 := by simp [popE, hl]
    have e2 : popS s = { s with low := x, l := l } := by simp [popS, hl', topL_snoc]
    have e3 : popH s = x := by simp [popH, hl', topL_snoc]
    rw [e1, e2, e3]
    have hcol := h.col
    subst hcol
    have ho' := ho
    rw [hl'] at ho'
    have y2 := hpull_some hok (b := b) (o := 3) hk0 hkr (fun e => hk0 e.symm) hv ho'
    have H := Lib.hid (And.intro hok (And.intro h (And.intro hkr hk0)))
    clear hok e1 e2 e3 hl hl' ho ho' hv hkr hk0 hr0
    have h0 := h.c0
    clear h
    go_enter Try.func10, Try.ntmps10
    go_wp2_with fail
    with_reducible refine y1.mono ?_
    rintro e w1 ⟨rfl, rfl⟩
    go_wp2_with fail
    with_reducible refine y2.mono ?_
    rintro e w1 ⟨rfl, v', p1, p2, p3, p4, p5⟩
    have q0 := (p5 0 (by decide)).trans h0
    have f0 := p4.soft b 0 H.out.2.2.2
    have P := Lib.hid (And.intro p1 (And.intro p2 (And.intro p3 (And.intro p4 p5))))
    clear p1 p2 p3 p4 p5 h0
    go_wp2
    go_ret2
    obtain ⟨p1, p2, p3, p4, p5⟩ := P.out
    have i1 := H.out.2.1.turned p1 p2 p5 rfl
    have oth : ∀ o, o ≠ 0 → (w1.setCell ⟨b, 0, none⟩ (.int .i64 x)).cell? ⟨b, o, none⟩ = w1.cell? ⟨b, o, none⟩ := fun o ho => World.cell?_setCell_other _ _ _ _ (by intro e; injection e with e1 e2; exact ho e2.symm)
    refine ⟨rfl, ⟨rfl, World.cell?_setCell_same' _ _ _ (by rw [q0]; rfl), (oth 1 (by decide)).trans i1.c1, (oth 2 (by decide)).trans i1.c2, v', (oth 3 (by decide)).trans p1, p2.set (a := ⟨b, 0, none⟩) (fun e => H.out.2.2.1 e.symm) H.out.2.2.2 _⟩, p3.setCell (a := ⟨b, 0, none⟩) (.inr (show One (c b) (c b) from rfl)) _, p4.setCell _ _⟩
end
end Go.Proofs.Ytcagfdmafelbkab
