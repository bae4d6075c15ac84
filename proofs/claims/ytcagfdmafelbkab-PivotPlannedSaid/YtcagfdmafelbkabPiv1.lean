/- Pivot: the plain data, the stack in memory, the inner stack's functions. -/
import Derived.Test.YtcagfdmafelbkabRows
import Derived.Test.YtcagfdmafelbkabRnd3
import Derived.Deep.DeepFit
import Derived.BigQuiet
import Derived.Deep.QuietTactic
set_option linter.unusedVariables false
set_option linter.unusedSimpArgs false
namespace Go.Proofs.Ytcagfdmafelbkab
open Go.RowKit

/-- A stack: how it was made, its base, its heights from the bottom up. -/
structure Stk where
  root : Int
  target : Int
  low : Int
  l : List Int

def topL (l : List Int) : Int := l.getLast?.getD 0
theorem topL_snoc (l : List Int) (x : Int) : topL (l ++ [x]) = x := by simp [topL]

/-- In memory: the struct, of colour k, and the row of its heights, of colour kr. -/
structure IsSt (c : Col) (k kr : Nat) (w : World) (b : Nat) (s : Stk) : Prop where
  col : c b = k
  c0 : w.cell? ⟨b, 0, none⟩ = some (.int .i64 s.low)
  c1 : w.cell? ⟨b, 1, none⟩ = some (.int .i64 s.root)
  c2 : w.cell? ⟨b, 2, none⟩ = some (.int .i64 s.target)
  row : ∃ v, w.cell? ⟨b, 3, none⟩ = some v ∧ Own (TInt .i64) 3 c kr 0 w v s.l

theorem IsSt.lt {c k kr w b s} (h : IsSt c k kr w b s) : b < w.heap.size := World.block_lt_of_cell? w _ h.c0

theorem IsSt.keep {K : Nat → Prop} {c c' : Col} {k kr : Nat} {w w' : World} {b : Nat} {s : Stk} (h : IsSt c k kr w b s) (hs : Step K c w c' w') (hk : ¬ K k) (hkr : ¬ K kr) (h0 : ¬ K 0) : IsSt c' k kr w' b s := by
  have hb := h.lt
  have hkb : ¬ K (c b) := by rw [h.col]; exact hk
  obtain ⟨v, h1, h2⟩ := h.row
  exact ⟨(hs.col b hb hkb).trans h.col, (hs.cell hb hkb).trans h.c0, (hs.cell hb hkb).trans h.c1, (hs.cell hb hkb).trans h.c2, v, (hs.cell hb hkb).trans h1, h2.keep hs hkr h0⟩
theorem IsSt.kn {c c' : Col} {k kr : Nat} {w w' : World} {b : Nat} {s : Stk} (h : IsSt c k kr w b s) (hs : Step No c w c' w') : IsSt c' k kr w' b s := h.keep hs (fun h => h) (fun h => h) (fun h => h)

theorem infoInt : (Try.prog.info? 3).map (fun i => (i.zero, i.size, i.bytes)) = some (some (.int .i64 0), 1, 8) := by kernel_rfl

/-- The last element of a slice of numbers. -/
theorem int_at {c : Col} {k k2 : Nat} {w : World} {v : Value} {l : List Int} (h : Sl (TInt .i64) c k k2 w v l) {j : Nat} {x : Int} (hj : l[j]? = some x) :
    ∃ g off cap, v = .slice (some ⟨g, off, none⟩) l.length cap ∧ w.cell? ⟨g, off + j, none⟩ = some (.int .i64 x) ∧ IntKind.i64.has x := by
  rcases h with ⟨rfl, _⟩ | ⟨g, off, cap, hv, h1, h2, h3, h4, h5⟩
  · simp at hj
  · obtain ⟨vs, ⟨rfl, hr⟩, hc⟩ := h5 j x hj
    exact ⟨g, off, cap, hv, by have := hc 0 _ rfl; simpa [TInt] using this, hr⟩

section
variable {c : Col} {w : World} {k k2 b o : Nat} {v : Value}

theorem htop_none {l : List Int} (hl : l = []) (hc : w.cell? ⟨b, o, none⟩ = some v) (h : Sl (TInt .i64) c k k2 w v l) :
    Calls Try.prog 34 #[.pointer (some ⟨b, o, none⟩)] w fun r w' => r = .returned (.tuple #[.int .i64 0, .bool false]) ∧ w = w' := by
  subst hl
  obtain ⟨a, n, rfl, _⟩ := h.form
  clear h
  simp only [List.length_nil] at *
  go_enter Try.func34, Try.ntmps34
  go_wp2
  go_ret2
  exact ⟨rfl, rfl⟩

set_option maxHeartbeats 400000 in
theorem htop_some {l : List Int} {x : Int} (hc : w.cell? ⟨b, o, none⟩ = some v) (h : Sl (TInt .i64) c k k2 w v (l ++ [x])) :
    Calls Try.prog 34 #[.pointer (some ⟨b, o, none⟩)] w fun r w' => r = .returned (.tuple #[.int .i64 x, .bool true]) ∧ ∃ n, w' = w.drewN n := by
  have hm := h.length_le
  unfold maxLen at hm
  obtain ⟨g, off, cap, rfl, hx, _⟩ := int_at h (j := l.length) (x := x) (by simp)
  clear h
  obtain ⟨n, hn⟩ : ∃ n, n = l.length := ⟨_, rfl⟩
  rw [← hn] at hx
  have e : (l ++ [x]).length = n + 1 := by simp [hn]
  rw [e] at hc hm
  clear hn e
  have e1 : decide (((n + 1 : Nat) : Int) = 0) = false := by simp; omega
  have e2 : (((n + 1 : Nat) : Int) == 0) = false := by simp; omega
  have e3 : IntKind.i64.wrap (n : Int) = (n : Int) := IntWalk.i64_in _ (by omega)
  have e4 : (0 : Int) ≤ (n : Int) := by omega
  have e5 : (n : Int) < ((n + 1 : Nat) : Int) := by omega
  clear hm
  go_enter Try.func34, Try.ntmps34
  go_wp2
  go_quiet (fail)
  go_wp2
  go_ret2
  exact ⟨rfl, _, rfl⟩
end

/-- The last taken away. -/
theorem Own.pop {α : Type} {T : Ty α} {e : TypeId} {c : Col} {k k2 : Nat} {w : World} {a : Option Addr} {m cap : Nat} {l : List α} {x : α} (h : Own T e c k k2 w (.slice a m cap) (l ++ [x])) : Own T e c k k2 w (.slice a l.length cap) l := by
  obtain ⟨xss, hx, hrd, hlen, ⟨_, hr⟩, hcol⟩ := h
  have hx' : xss.length = l.length + 1 := by simpa using hx
  obtain ⟨ys, y, rfl⟩ : ∃ ys y, xss = ys ++ [y] := ⟨xss.dropLast, xss.getLast (by intro e; simp [e] at hx'), (List.dropLast_concat_getLast _).symm⟩
  have hy : ys.length = l.length := by simpa using hx'
  refine ⟨ys, hy, fun i z hi => ?_, fun vs hv => hlen vs (by simp [hv]), ⟨by rw [flatten_len ys (fun vs hv => hlen vs (by simp [hv])), hy], ?_⟩, fun b hb => hcol b (by cases a <;> simp [Value.ownBlock] at hb ⊢; exact hb)⟩
  · have hil : i < l.length := (List.getElem?_eq_some_iff.1 hi).1
    obtain ⟨vs, h1, h2⟩ := hrd i z (by rw [List.getElem?_append_left hil]; exact hi)
    rw [List.getElem?_append_left (by omega)] at h1
    exact ⟨vs, h1, h2⟩
  · rcases hr with ⟨hv, h0⟩ | ⟨g, cap', cur, hv, h0, hg, h1, h2, h3, h4⟩
    · simp at h0
    · cases hv
      refine .inr ⟨g, cap, cur, rfl, h0, hg, by simp at h1; omega, h2, h3, ?_⟩
      have : cur.toList.take (l.length * T.n) = (cur.toList.take ((l ++ [x]).length * T.n)).take (l.length * T.n) := by
        rw [List.take_take, Nat.min_eq_left (Nat.mul_le_mul_right _ (by simp))]
      rw [this, h4, List.flatten_append, List.take_append_of_le_length (by rw [flatten_len ys (fun vs hv => hlen vs (by simp [hv])), hy]; exact Nat.le_refl _)]
      exact List.take_of_length_le (by rw [flatten_len ys (fun vs hv => hlen vs (by simp [hv])), hy]; exact Nat.le_refl _)

section
variable {c : Col} {w : World} {k k2 b o : Nat} {v : Value}

theorem hpull_none {l : List Int} (hl : l = []) (hc : w.cell? ⟨b, o, none⟩ = some v) (h : Sl (TInt .i64) c k k2 w v l) :
    Calls Try.prog 29 #[.pointer (some ⟨b, o, none⟩)] w fun r w' => r = .returned (.tuple #[.int .i64 0, .bool false]) ∧ w = w' := by
  have T := htop_none hl hc h
  clear hl hc h
  go_enter Try.func29, Try.ntmps29
  go_wp2_with fail
  with_reducible refine T.mono ?_
  rintro e w1 ⟨rfl, rfl⟩
  go_wp2
  go_ret2
  exact ⟨rfl, rfl⟩

set_option maxHeartbeats 400000 in
theorem hpull_some (hok : Ok c w) {l : List Int} {x : Int} (hk0 : c b ≠ 0) (hkb : k ≠ c b) (hk2b : k2 ≠ c b) (hc : w.cell? ⟨b, o, none⟩ = some v) (h : Own (TInt .i64) 3 c k k2 w v (l ++ [x])) :
    Calls Try.prog 29 #[.pointer (some ⟨b, o, none⟩)] w fun r w' => r = .returned (.tuple #[.int .i64 x, .bool true]) ∧
      ∃ v', w'.cell? ⟨b, o, none⟩ = some v' ∧ Own (TInt .i64) 3 c k k2 w' v' l ∧ Step (One (c b)) c w c w' ∧ Ok c w' ∧ ∀ o', o' ≠ o → w'.cell? ⟨b, o', none⟩ = w.cell? ⟨b, o', none⟩ := by
  have T := htop_some hc h.sl
  have hf : w.frozen? ⟨b, o, none⟩ = false := hok.soft b o hk0
  have hm := h.sl.length_le
  unfold maxLen at hm
  obtain ⟨g, off, cap, rfl, _, _⟩ := int_at h.sl (j := l.length) (x := x) (by simp)
  have hcap : l.length + 1 ≤ cap := by
    obtain ⟨_, _, _, _, ⟨_, hr⟩, _⟩ := h
    rcases hr with ⟨hv, _⟩ | ⟨g, cap', cur, hv, h0, hg, h1, _⟩
    · cases hv
    · cases hv; simpa using h1
  have hcm : cap ≤ maxLen := by
    obtain ⟨_, _, _, _, ⟨_, hr⟩, _⟩ := h
    rcases hr with ⟨hv, _⟩ | ⟨g, cap', cur, hv, h0, hg, h1, h2, _⟩
    · cases hv
    · cases hv; exact h2
  unfold maxLen at hcm
  have hp := h.pop
  have H := Lib.hid (And.intro hok (And.intro hp (And.intro hkb hk2b)))
  obtain ⟨n, hn⟩ : ∃ n, n = l.length := ⟨_, rfl⟩
  rw [← hn] at hcap H hp
  have e : (l ++ [x]).length = n + 1 := by simp [hn]
  rw [e] at hc hm
  clear hn e h hok hp
  have e3 : IntKind.i64.wrap (n : Int) = (n : Int) := IntWalk.i64_in _ (by omega)
  have e4 : (0 : Int) ≤ (n : Int) := by omega
  have e5 : (n : Int) ≤ (cap : Int) := by omega
  have e6 : n ≤ cap := by omega
  have e7 : decide ((n : Int) ≤ (cap : Int)) = true := by simpa using e5
  clear hm hcap hcm
  go_enter Try.func29, Try.ntmps29
  go_wp2_with fail
  with_reducible refine T.mono ?_
  rintro e w1 ⟨rfl, m, rfl⟩
  go_wp2_with fail
  have K1 : (fun W => W.cell? ⟨b, o, none⟩ = some (.slice (some ⟨g, off, none⟩) (n + 1) cap) ∧ W.frozen? ⟨b, o, none⟩ = false) (w.drewN m).drew := ⟨hc, hf⟩
  refine region_planM (fun W => W.cell? ⟨b, o, none⟩ = some (.slice (some ⟨g, off, none⟩) (n + 1) cap) ∧ W.frozen? ⟨b, o, none⟩ = false) (fun i => !([11] : List Nat).contains i) (by kernel_rfl) ?_
  refine wpAnyM.takeT (i := 0) (v := _) (some 10) rfl rfl (by kernel_rfl) (by kernel_rfl) (by kernel_rfl) (by kernel_rfl) (by kernel_rfl) (fun _ _ _ h => h) (Or.inl ⟨by rfl, fun W hW => by first | (obtain ⟨q0, q1⟩ := hW; go_simp <;> rfl) | (obtain ⟨q0, q1⟩ := hW; go_simp; done)⟩) K1 ?_
  (try simp only [Act.put, List.setIfInBounds_toArray, List.set_cons_zero, List.set_cons_succ])
  refine wpAnyM.takeT (i := 1) (v := _) (some 11) rfl rfl (by kernel_rfl) (by kernel_rfl) (by kernel_rfl) (by kernel_rfl) (by kernel_rfl) (fun _ _ _ h => h) (Or.inl ⟨by rfl, fun W hW => by first | (obtain ⟨q0, q1⟩ := hW; go_simp <;> rfl) | (obtain ⟨q0, q1⟩ := hW; go_simp; done)⟩) K1 ?_
  (try simp only [Act.put, List.setIfInBounds_toArray, List.set_cons_zero, List.set_cons_succ])
  refine wpAnyM.takeT (i := 2) (v := _) (some 12) rfl rfl (by kernel_rfl) (by kernel_rfl) (by kernel_rfl) (by kernel_rfl) (by kernel_rfl) (fun _ _ _ h => h) (Or.inl ⟨by rfl, fun W hW => by first | (obtain ⟨q0, q1⟩ := hW; go_simp <;> rfl) | (obtain ⟨q0, q1⟩ := hW; go_simp; done)⟩) K1 ?_
  (try simp only [Act.put, List.setIfInBounds_toArray, List.set_cons_zero, List.set_cons_succ])
  refine wpAnyM.takeT (i := 3) (v := _) (some 13) rfl rfl (by kernel_rfl) (by kernel_rfl) (by kernel_rfl) (by kernel_rfl) (by kernel_rfl) (fun _ _ _ h => h) (Or.inl ⟨by rfl, fun W hW => by first | (obtain ⟨q0, q1⟩ := hW; go_simp <;> rfl) | (obtain ⟨q0, q1⟩ := hW; go_simp; done)⟩) K1 ?_
  (try simp only [Act.put, List.setIfInBounds_toArray, List.set_cons_zero, List.set_cons_succ])
  refine wpAnyM.takeT (i := 4) (v := _) (some 14) rfl rfl (by kernel_rfl) (by kernel_rfl) (by kernel_rfl) (by kernel_rfl) (by kernel_rfl) (fun _ _ _ h => h) (Or.inl ⟨by rfl, fun W hW => by first | (obtain ⟨q0, q1⟩ := hW; go_simp <;> rfl) | (obtain ⟨q0, q1⟩ := hW; go_simp; done)⟩) K1 ?_
  (try simp only [Act.put, List.setIfInBounds_toArray, List.set_cons_zero, List.set_cons_succ])
  refine wpAnyM.takeT (i := 5) (v := _) (some 15) rfl rfl (by kernel_rfl) (by kernel_rfl) (by kernel_rfl) (by kernel_rfl) (by kernel_rfl) (fun _ _ _ h => h) (Or.inl ⟨by rfl, fun W hW => by first | (obtain ⟨q0, q1⟩ := hW; go_simp <;> rfl) | (obtain ⟨q0, q1⟩ := hW; go_simp; done)⟩) K1 ?_
  (try simp only [Act.put, List.setIfInBounds_toArray, List.set_cons_zero, List.set_cons_succ])
  refine wpAnyM.takeT (i := 6) (v := _) (some 16) rfl rfl (by kernel_rfl) (by kernel_rfl) (by kernel_rfl) (by kernel_rfl) (by kernel_rfl) (fun _ _ _ h => h) (Or.inl ⟨by rfl, fun W hW => by first | (obtain ⟨q0, q1⟩ := hW; go_simp <;> rfl) | (obtain ⟨q0, q1⟩ := hW; go_simp; done)⟩) K1 ?_
  (try simp only [Act.put, List.setIfInBounds_toArray, List.set_cons_zero, List.set_cons_succ])
  refine wpAnyM.takeT (i := 7) (v := _) (some 17) rfl rfl (by kernel_rfl) (by kernel_rfl) (by kernel_rfl) (by kernel_rfl) (by kernel_rfl) (fun _ _ _ h => h) (Or.inl ⟨by rfl, fun W hW => by first | (obtain ⟨q0, q1⟩ := hW; go_simp <;> rfl) | (obtain ⟨q0, q1⟩ := hW; go_simp; done)⟩) K1 ?_
  (try simp only [Act.put, List.setIfInBounds_toArray, List.set_cons_zero, List.set_cons_succ])
  refine wpAnyM.takeT (i := 8) (v := _) (some 18) rfl rfl (by kernel_rfl) (by kernel_rfl) (by kernel_rfl) (by kernel_rfl) (by kernel_rfl) (fun _ _ _ h => h) (Or.inl ⟨by rfl, fun W hW => by first | (obtain ⟨q0, q1⟩ := hW; go_simp <;> rfl) | (obtain ⟨q0, q1⟩ := hW; go_simp; done)⟩) K1 ?_
  (try simp only [Act.put, List.setIfInBounds_toArray, List.set_cons_zero, List.set_cons_succ])
  refine wpAnyM.takeT (i := 9) (v := _) (some 19) rfl rfl (by kernel_rfl) (by kernel_rfl) (by kernel_rfl) (by kernel_rfl) (by kernel_rfl) (fun _ _ _ h => h) (Or.inl ⟨by rfl, fun W hW => by first | (obtain ⟨q0, q1⟩ := hW; go_simp <;> rfl) | (obtain ⟨q0, q1⟩ := hW; go_simp; done)⟩) K1 ?_
  (try simp only [Act.put, List.setIfInBounds_toArray, List.set_cons_zero, List.set_cons_succ])
  refine wpAnyM.takeT (i := 10) (v := _) (some 20) rfl rfl (by kernel_rfl) (by kernel_rfl) (by kernel_rfl) (by kernel_rfl) (by kernel_rfl) (fun _ _ _ h => h) (Or.inl ⟨by rfl, fun W hW => by first | (obtain ⟨q0, q1⟩ := hW; go_simp <;> rfl) | (obtain ⟨q0, q1⟩ := hW; go_simp; done)⟩) K1 ?_
  (try simp only [Act.put, List.setIfInBounds_toArray, List.set_cons_zero, List.set_cons_succ])
  refine wpAnyM.one (i := 11) (by kernel_rfl) rfl (fun KQ hK => ?_)
  go_simp
  refine hK.out _ _ (fun h => absurd h (by decide)) ?_
  clear hK KQ
  (try simp only [Act.put, List.setIfInBounds_toArray, List.set_cons_zero, List.set_cons_succ])
  refine wpAnyM.done (by kernel_rfl) ?_ _
  go_wp2
  go_ret2
  obtain ⟨hok, hp, hkb, hk2b⟩ := H.out
  have st : Step (One (c b)) c w c ((w.drewN (m + 1)).setCell ⟨b, o, none⟩ (.slice (some ⟨g, off, none⟩) n cap)) := ((Step.refl (K := One (c b))).drewN (m + 1)).setCell (.inr (show One (c b) (c b) from rfl)) _
  exact ⟨rfl, _, World.cell?_setCell_same' _ _ _ (by rw [World.cell?_drewN, hc]; rfl), hp.keep st hkb hk2b, st, (hok.drewN _).setCell _ _, fun o' ho => (World.cell?_setCell_other _ _ _ _ (by intro e; injection e with e1 e2; exact ho e2.symm)).trans rfl⟩

set_option maxHeartbeats 400000 in
theorem hpush_any (hok : Ok c w) {l : List Int} {x : Int} (hk0 : c b ≠ 0) (hr0 : k ≠ 0) (hkb : k ≠ c b) (hk2 : k2 ≠ k) (hk2b : k2 ≠ c b) (hc : w.cell? ⟨b, o, none⟩ = some v) (h : Own (TInt .i64) 3 c k k2 w v l) (hx : IntKind.i64.has x) (hl : l.length ≤ 1000000000) :
    Calls Try.prog 28 #[.pointer (some ⟨b, o, none⟩), .int .i64 x] w fun r w' => r = .returned (.tuple #[]) ∧
      ∃ v' c', w'.cell? ⟨b, o, none⟩ = some v' ∧ Own (TInt .i64) 3 c' k k2 w' v' (l ++ [x]) ∧ Step (Two (c b) k) c w c' w' ∧ Ok c' w' ∧ (∀ o', o' ≠ o → w'.cell? ⟨b, o', none⟩ = w.cell? ⟨b, o', none⟩) ∧ c' b = c b := by
  have hb : b < w.heap.size := World.block_lt_of_cell? w _ hc
  obtain ⟨va, vc, rfl, _⟩ := h.sl.form
  obtain ⟨x1, x2, x3⟩ := put_one (T := TInt .i64) (x := x) (vs := [.int .i64 x]) (k2 := k2) hok ⟨rfl, hx⟩ 3
  have x4 := h.kn x3
  have hb1 : l.length + [x].length ≤ maxLen := by simp [maxLen]; omega
  have hb2 : (l.length + [x].length) * 8 ≤ 140737488355328 := by simp; omega
  have H := Lib.hid (And.intro hkb (And.intro hk2 (And.intro hk2b (And.intro hk0 hr0))))
  clear hkb hk2b hk0 hr0 hok h
  go_enter Try.func28, Try.ntmps28
  go_wp2_with (at_builtin; go_loud (refine wpList_app (TInt .i64) x1 rfl _ _ 51 rfl 3 Try.underlying51 infoInt rfl (by decide) rfl rfl x4 x2 hk2 hb1 hb2 ?_); rintro v' w' c' b1 b2 b3 -; obtain ⟨av, cv, rfl, _⟩ := b1.sl.form; rw [show (l ++ [x]).length = l.length + 1 by simp] at b1; have hcb := (b2.col b (Nat.lt_of_lt_of_le hb x3.size) (fun e => H.out.1 e.symm)); have hf := b3.soft b o (by rw [hcb]; exact H.out.2.2.2.1); have hc2 := (b2.cell (o := o) (Nat.lt_of_lt_of_le hb x3.size) (fun e => H.out.1 e.symm)).trans ((x3.cell hb (fun h => h)).trans hc))
  go_end0
  obtain ⟨hkb, hk2, hk2b, hk0, hr0⟩ := H.out
  have hbw : ∀ o', w'.cell? ⟨b, o', none⟩ = w.cell? ⟨b, o', none⟩ := fun o' => (b2.cell (Nat.lt_of_lt_of_le hb x3.size) (fun e => hkb e.symm)).trans (x3.cell hb (fun h => h))
  have st : Step (Two (c b) k) c w c' w' := x3.ofNo.trans (b2.mono fun _ h => .inr h)
  refine ⟨rfl, _, c', World.cell?_setCell_same' _ _ _ (by rw [hbw o, hc]; rfl), b1.set (a := ⟨b, o, none⟩) (by show c' b ≠ k; rw [hcb]; exact hkb.symm) (by show c' b ≠ k2; rw [hcb]; exact hk2b.symm) _, st.setCell (.inr (.inl rfl)) _, b3.setCell _ _, fun o' ho => (World.cell?_setCell_other _ _ _ _ (by intro e; injection e with e1 e2; exact ho e2.symm)).trans (hbw o'), hcb⟩
end
end Go.Proofs.Ytcagfdmafelbkab
