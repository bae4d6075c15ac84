/- The law LedgerActs: its walk. -/
import Derived.Test.YtcagfdmafelbkaaLed9
import Derived.Test.YtcagfdmafelbkaaLed11
import Derived.Test.YtcagfdmafelbkaaKit5
import Derived.Test.YtcagfdmafelbkaaRef6
namespace Go.Proofs.Ytcagfdmafelbkaa
open Go.RowKit

theorem kept_kept (e : Entry) : e.kept.kept = e.kept := by
  obtain ⟨now, who, kind, fault, id, bytes⟩ := e
  simp only [Entry.kept]
  by_cases h1 : kind = 1 <;> by_cases h2 : kind = 2 <;> by_cases h3 : kind = 3 <;> simp [h1, h2, h3]

theorem kept_len (e : Entry) : e.kept.bytes.length ≤ e.bytes.length := by
  simp only [Entry.kept]; split <;> simp

theorem map_kept {l : List Entry} (h : ∀ e ∈ l, e.kept = e) : l.map Entry.kept = l := by
  induction l with
  | nil => rfl
  | cons a t ih => rw [List.map_cons, h a (by simp), ih (fun e he => h e (by simp [he]))]

/-- What the loop keeps. -/
structure Inv (n : Int) (l : List Entry) (bx bw : Nat) (w0 : World) (j : Nat) (L : List Entry) (c : Col) (w : World) : Prop where
  le : j ≤ l.length
  len : L.length ≤ j
  step : Step (fun j => j ≠ 0) (fun _ => 0) w0 c w
  ok : Ok c w
  x : IsLed c 1 2 w bx n L
  r : IsLed c 3 4 w bw n L
  kept : ∀ e ∈ L, e.kept = e
  bytes : ∀ e ∈ L, e.bytes.length ≤ 1500

theorem At.last {c : Col} {W : World} {b k : Nat} {v0 v1 v2 v3 v4 v5 : Value} (h : At c W b k [v0, v1, v2, v3, v4, v5]) (u : Value) : At c (W.setCell ⟨b, 5, none⟩ u) b k [v0, v1, v2, v3, v4, u] := by
  refine ⟨h.col, by rw [size_setCell]; exact h.lt, fun j x hx => ?_⟩
  have hj : j < 6 := by have := (List.getElem?_eq_some_iff.1 hx).1; simpa using this
  by_cases e5 : j = 5
  · subst e5
    simp at hx; subst hx
    exact World.cell?_setCell_same' _ _ _ (by rw [show (⟨b, 0 + 5, none⟩ : Addr) = ⟨b, 5, none⟩ from rfl, show W.cell? ⟨b, 5, none⟩ = some v5 from h.cells 5 _ rfl]; rfl)
  · rw [World.cell?_setCell_other _ _ _ _ (by intro h; injection h with h1 h2; omega)]
    refine h.cells j x ?_
    rcases j with _ | _ | _ | _ | _ | _ | j
    · simpa using hx
    · simpa using hx
    · simpa using hx
    · simpa using hx
    · simpa using hx
    · exact absurd rfl e5
    · omega

set_option maxRecDepth 100000 in
set_option maxHeartbeats 1600000 in
theorem acts_law {w : World} {v : Value} {l : List Entry} (h : Sl TEntry (fun _ => 0) 0 0 w v l) (n who most : Int) :
    Calls Try.prog 3 #[.int .i64 n, v, .int .i64 who, .int .i64 most] w fun r w' => r = .returned (.bool true) ∧ Below w.heap.size w w' := by
  have hok : Ok (fun _ => 0) w := Ok.zero w
  have bel : ∀ {K : Nat → Prop} {c' : Col} {w' : World}, Step K (fun _ => 0) w c' w' → ¬ K 0 → Below w.heap.size w w' := fun h k0 => h.below (fun _ _ => k0)
  have L1 := long_any h 30
  have h' := Lib.hid h
  obtain ⟨va, vc, rfl, _⟩ := h.form
  cases hlong : longE l 30
  case true =>
    clear h
    rw [hlong] at L1
    go_enter Try.func3, Try.ntmps3
    go_wp2_with fail
    with_reducible refine L1.mono ?_
    rintro e w1 ⟨rfl, rfl⟩
    go_wp2_with fail
    refine (awake_any hok).mono ?_
    rintro e w2 ⟨rfl, c2, s2, _⟩
    go_wp2_with fail
    go_ret
    exact ⟨rfl, bel s2 (fun h => h)⟩
  case false =>
    rw [hlong] at L1
    by_cases hn : n < 1 ∨ 16 < n
    · have N1 := new_bad n w hn
      have N2 := rnew_bad n w hn
      clear h
      go_enter Try.func3, Try.ntmps3
      go_wp2_with fail
      with_reducible refine L1.mono ?_
      rintro e w1 ⟨rfl, rfl⟩
      go_wp2_with fail
      with_reducible refine N1.mono ?_
      rintro e w1 ⟨rfl, rfl⟩
      go_wp2_with fail
      with_reducible refine N2.mono ?_
      rintro e w1 ⟨rfl, bl⟩
      go_wp2_with fail
      refine wp_loop_once ?_
      go_wp2_with fail
      refine (awake_any (hok.ofBelow bl)).mono ?_
      rintro e w2 ⟨rfl, c2, s2, _⟩
      go_wp2_with fail
      go_ret
      exact ⟨rfl, bel ((Step.ofBelow (K := No) bl).trans s2) (fun h => h)⟩
    · have hn1 : 1 ≤ n := by omega
      have hn2 : n ≤ 16 := by omega
      have hln : l.length ≤ 30 := by simp [longE] at hlong; omega
      have hlb : ∀ e ∈ l, e.bytes.length ≤ 1500 := by simp [longE] at hlong; exact fun e he => by have := hlong.1 e he; omega
      have N1 := new_ok hok n hn1 hn2 1 2
      clear h hlong
      go_enter Try.func3, Try.ntmps3
      go_wp2_with fail
      with_reducible refine L1.mono ?_
      rintro e w1 ⟨rfl, rfl⟩
      go_wp2_with fail
      with_reducible refine N1.mono ?_
      rintro e w1 ⟨rfl, c1, i1, s1, o1⟩
      have N2 := rnew_ok o1 n hn1 hn2 3 4
      go_wp2_with fail
      with_reducible refine N2.mono ?_
      rintro e w2 ⟨rfl, c2, i2, s2, o2⟩
      have i1' := i1.keep s2 (fun h => h) (fun h => h) (fun h => h)
      have I0 : Inv n l w.heap.size w1.heap.size w 0 [] c2 w2 := ⟨Nat.zero_le _, Nat.le_refl _, (s1.trans s2).ofNo, o2, i1', i2, by simp, by simp⟩
      clear i1 i2 s1 s2 o1 o2 i1' N1 N2 L1
      go_wp2_with fail
      go_loopw [13, 14, 15, 16] (fun i x14 x15 x16 wr => ∃ (j : Nat) (L : List Entry) (cr : Col), i = .int .i64 j ∧ Inv n l w.heap.size w1.heap.size w j L cr wr) (fun i _ _ _ _ => l.length - (intOf i).toNat)
      case atStart => exact ⟨0, [], c2, rfl, I0⟩
      case round =>
        obtain ⟨j, L, cr, rfl, I⟩ := hrel
        have hj := I.le
        have hl := h'.out.keep I.step (by simp) (by simp)
        by_cases hlt : j < l.length
        · obtain ⟨x, hx⟩ : ∃ x, l[j]? = some x := ⟨l[j], by simp [hlt]⟩
          have hxb : x.bytes.length ≤ 1500 := hlb x (List.mem_of_getElem? hx)
          obtain ⟨g, off, cap, hva, hlc, hcm, hgc, hgl⟩ := hl.some (by omega)
          cases hva
          obtain ⟨bv, e1, e2, y0, y1, y2, y3, y4, y5⟩ := entry_at hl hx
          obtain ⟨ba, bc, rfl, _⟩ := e2.form
          have hI := Lib.hid I
          have C1 := lentBytes_any (I.ok.alloc (.cells #[.int .i64 x.now, .int .i64 x.who, .int .i64 x.kind, .int .i64 x.fault, .int .i64 x.id, .slice ba x.bytes.length bc] 34)) 5 5 (e2.kn (Step.al (.cells #[.int .i64 x.now, .int .i64 x.who, .int .i64 x.kind, .int .i64 x.fault, .int .i64 x.id, .slice ba x.bytes.length bc] 34))) (by omega)
          have A1 := At.new0 I.ok [.int .i64 x.now, .int .i64 x.who, .int .i64 x.kind, .int .i64 x.fault, .int .i64 x.id, .slice ba x.bytes.length bc] 34
          clear hx
          go_wp2_with fail
          with_reducible refine C1.mono ?_
          rintro e w3 ⟨lb, lo, lcap, c3, rfl, g1, g2, g3, s3, o3⟩
          have A2 := A1.keep s3 (fun h => h)
          have d0 := A2.cells 0 _ rfl
          have d1 := A2.cells 1 _ rfl
          have d2 := A2.cells 2 _ rfl
          have d3 := A2.cells 3 _ rfl
          have d4 := A2.cells 4 _ rfl
          have d5 := A2.cells 5 _ rfl
          obtain ⟨f1, f2⟩ := s3.facts
          clear C1 A1
          go_wp2_with fail
          have A4 := A2.last (.slice (some ⟨lb, lo, none⟩) x.bytes.length lcap)
          have t4 := ((Step.al (.cells #[.int .i64 x.now, .int .i64 x.who, .int .i64 x.kind, .int .i64 x.fault, .int .i64 x.id, .slice ba x.bytes.length bc] 34)).trans s3).setCell (a := ⟨wr.heap.size, 5, none⟩) (.inl (Nat.le_refl _)) (.slice (some ⟨lb, lo, none⟩) x.bytes.length lcap)
          have o4 := o3.setCell ⟨wr.heap.size, 5, none⟩ (.slice (some ⟨lb, lo, none⟩) x.bytes.length lcap)
          have hc5 : c3 wr.heap.size ≠ 5 := by rw [A2.col]; decide
          have b4 : Sl TByte c3 5 5 (w3.setCell ⟨wr.heap.size, 5, none⟩ (.slice (some ⟨lb, lo, none⟩) x.bytes.length lcap)) (.slice (some ⟨lb, lo, none⟩) (x.bytes.length + 4) lcap) (x.bytes ++ four) := g3.set hc5 hc5 _
          obtain ⟨W4, hW4⟩ : ∃ W4, w3.setCell ⟨wr.heap.size, 5, none⟩ (.slice (some ⟨lb, lo, none⟩) x.bytes.length lcap) = W4 := ⟨_, rfl⟩
          rw [hW4] at A4 t4 o4 b4 ⊢
          clear hW4 A2 s3 o3 g3 d0 d1 d2 d3 d4 d5 f1 f2 hc5
          have hg : g < wr.heap.size := hgl
          have hcg : c3 g = 0 := (t4.col g hg (fun h => h)).trans hgc
          have hg4 : g < W4.heap.size := Nat.lt_of_lt_of_le hg t4.size
          have hS : ∀ {K : Nat → Prop} {c' : Col} {W' : World}, Step K c3 W4 c' W' → ¬ K 0 → (fun W => W.cell? ⟨wr.heap.size, 0, none⟩ = some (.int .i64 x.now) ∧ W.cell? ⟨wr.heap.size, 1, none⟩ = some (.int .i64 x.who) ∧ W.cell? ⟨wr.heap.size, 2, none⟩ = some (.int .i64 x.kind) ∧ W.cell? ⟨wr.heap.size, 3, none⟩ = some (.int .i64 x.fault) ∧ W.cell? ⟨wr.heap.size, 4, none⟩ = some (.int .i64 x.id) ∧ W.cell? ⟨wr.heap.size, 5, none⟩ = some (.slice (some ⟨lb, lo, none⟩) x.bytes.length lcap) ∧ W.cell? ⟨g, off + j * 6, none⟩ = some (.int .i64 x.now) ∧ W.cell? ⟨g, off + j * 6 + 1, none⟩ = some (.int .i64 x.who) ∧ W.cell? ⟨g, off + j * 6 + 2, none⟩ = some (.int .i64 x.kind) ∧ W.cell? ⟨g, off + j * 6 + 3, none⟩ = some (.int .i64 x.fault) ∧ W.cell? ⟨g, off + j * 6 + 4, none⟩ = some (.int .i64 x.id) ∧ W.cell? ⟨g, off + j * 6 + 5, none⟩ = some (.slice ba x.bytes.length bc)) W' := fun s k0 => by
            have E := A4.keep s k0
            have F : ∀ o, _ = _ := fun o => (s.cell (b := g) (o := o) hg4 (by rw [hcg]; exact k0)).trans (t4.cell (b := g) (o := o) hg (fun h => h))
            exact ⟨E.cells 0 _ rfl, E.cells 1 _ rfl, E.cells 2 _ rfl, E.cells 3 _ rfl, E.cells 4 _ rfl, E.cells 5 _ rfl, (F _).trans y0, (F _).trans y1, (F _).trans y2, (F _).trans y3, (F _).trans y4, (F _).trans y5⟩
          have K1 : (fun W => W.cell? ⟨wr.heap.size, 0, none⟩ = some (.int .i64 x.now) ∧ W.cell? ⟨wr.heap.size, 1, none⟩ = some (.int .i64 x.who) ∧ W.cell? ⟨wr.heap.size, 2, none⟩ = some (.int .i64 x.kind) ∧ W.cell? ⟨wr.heap.size, 3, none⟩ = some (.int .i64 x.fault) ∧ W.cell? ⟨wr.heap.size, 4, none⟩ = some (.int .i64 x.id) ∧ W.cell? ⟨wr.heap.size, 5, none⟩ = some (.slice (some ⟨lb, lo, none⟩) x.bytes.length lcap) ∧ W.cell? ⟨g, off + j * 6, none⟩ = some (.int .i64 x.now) ∧ W.cell? ⟨g, off + j * 6 + 1, none⟩ = some (.int .i64 x.who) ∧ W.cell? ⟨g, off + j * 6 + 2, none⟩ = some (.int .i64 x.kind) ∧ W.cell? ⟨g, off + j * 6 + 3, none⟩ = some (.int .i64 x.fault) ∧ W.cell? ⟨g, off + j * 6 + 4, none⟩ = some (.int .i64 x.id) ∧ W.cell? ⟨g, off + j * 6 + 5, none⟩ = some (.slice ba x.bytes.length bc)) W4.drew := hS (Step.rf (c := c3) (w := W4)).drew (fun h => h)
          refine region_planM (fun W => W.cell? ⟨wr.heap.size, 0, none⟩ = some (.int .i64 x.now) ∧ W.cell? ⟨wr.heap.size, 1, none⟩ = some (.int .i64 x.who) ∧ W.cell? ⟨wr.heap.size, 2, none⟩ = some (.int .i64 x.kind) ∧ W.cell? ⟨wr.heap.size, 3, none⟩ = some (.int .i64 x.fault) ∧ W.cell? ⟨wr.heap.size, 4, none⟩ = some (.int .i64 x.id) ∧ W.cell? ⟨wr.heap.size, 5, none⟩ = some (.slice (some ⟨lb, lo, none⟩) x.bytes.length lcap) ∧ W.cell? ⟨g, off + j * 6, none⟩ = some (.int .i64 x.now) ∧ W.cell? ⟨g, off + j * 6 + 1, none⟩ = some (.int .i64 x.who) ∧ W.cell? ⟨g, off + j * 6 + 2, none⟩ = some (.int .i64 x.kind) ∧ W.cell? ⟨g, off + j * 6 + 3, none⟩ = some (.int .i64 x.fault) ∧ W.cell? ⟨g, off + j * 6 + 4, none⟩ = some (.int .i64 x.id) ∧ W.cell? ⟨g, off + j * 6 + 5, none⟩ = some (.slice ba x.bytes.length bc)) (fun _ => true) (by kernel_rfl) ?_
          refine wpAnyM.take' (i := 0) (v := .pointer (some ⟨w.heap.size, 0, none⟩)) (some 61) rfl rfl (by kernel_rfl) (by kernel_rfl) (by kernel_rfl) (by kernel_rfl) (fun _ _ _ h => h) (Or.inl ⟨by rfl, ?_⟩) K1 ?_
          · rintro W ⟨q0, q1, q2, q3, q4, q5, q6, q7, q8, q9, q10, q11⟩
            go_simp
          (try simp only [Act.put, List.setIfInBounds_toArray, List.set_cons_zero, List.set_cons_succ])
          refine wpAnyM.take' (i := 1) (v := .agg #[.int .i64 x.now, .int .i64 x.who, .int .i64 x.kind, .int .i64 x.fault, .int .i64 x.id, .slice (some ⟨lb, lo, none⟩) x.bytes.length lcap]) (some 62) rfl rfl (by kernel_rfl) (by kernel_rfl) (by kernel_rfl) (by kernel_rfl) (fun _ _ _ h => h) (Or.inl ⟨by rfl, ?_⟩) K1 ?_
          · rintro W ⟨q0, q1, q2, q3, q4, q5, q6, q7, q8, q9, q10, q11⟩
            go_simp
          (try simp only [Act.put, List.setIfInBounds_toArray, List.set_cons_zero, List.set_cons_succ])
          refine wpAnyM.take' (i := 3) (v := .pointer (some ⟨w1.heap.size, 0, none⟩)) (some 64) rfl rfl (by kernel_rfl) (by kernel_rfl) (by kernel_rfl) (by kernel_rfl) (fun _ _ _ h => h) (Or.inl ⟨by rfl, ?_⟩) K1 ?_
          · rintro W ⟨q0, q1, q2, q3, q4, q5, q6, q7, q8, q9, q10, q11⟩
            go_simp
          (try simp only [Act.put, List.setIfInBounds_toArray, List.set_cons_zero, List.set_cons_succ])
          refine wpAnyM.take' (i := 4) (v := .slice (some ⟨g, off, none⟩) l.length vc) (some 65) rfl rfl (by kernel_rfl) (by kernel_rfl) (by kernel_rfl) (by kernel_rfl) (fun _ _ _ h => h) (Or.inl ⟨by rfl, ?_⟩) K1 ?_
          · rintro W ⟨q0, q1, q2, q3, q4, q5, q6, q7, q8, q9, q10, q11⟩
            go_simp
          (try simp only [Act.put, List.setIfInBounds_toArray, List.set_cons_zero, List.set_cons_succ])
          refine wpAnyM.take' (i := 5) (v := .int .i64 j) (some 66) rfl rfl (by kernel_rfl) (by kernel_rfl) (by kernel_rfl) (by kernel_rfl) (fun _ _ _ h => h) (Or.inl ⟨by rfl, ?_⟩) K1 ?_
          · rintro W ⟨q0, q1, q2, q3, q4, q5, q6, q7, q8, q9, q10, q11⟩
            go_simp
          (try simp only [Act.put, List.setIfInBounds_toArray, List.set_cons_zero, List.set_cons_succ])
          refine wpAnyM.take' (i := 6) (v := .pointer (some ⟨g, off + j * 6, none⟩)) (some 67) rfl rfl (by kernel_rfl) (by kernel_rfl) (by kernel_rfl) (by kernel_rfl) (fun _ _ _ h => h) (Or.inl ⟨by rfl, ?_⟩) K1 ?_
          · rintro W ⟨q0, q1, q2, q3, q4, q5, q6, q7, q8, q9, q10, q11⟩
            go_simp
          (try simp only [Act.put, List.setIfInBounds_toArray, List.set_cons_zero, List.set_cons_succ])
          refine wpAnyM.take' (i := 7) (v := .agg #[.int .i64 x.now, .int .i64 x.who, .int .i64 x.kind, .int .i64 x.fault, .int .i64 x.id, .slice ba x.bytes.length bc]) (some 68) rfl rfl (by kernel_rfl) (by kernel_rfl) (by kernel_rfl) (by kernel_rfl) (fun _ _ _ h => h) (Or.inl ⟨by rfl, ?_⟩) K1 ?_
          · rintro W ⟨q0, q1, q2, q3, q4, q5, q6, q7, q8, q9, q10, q11⟩
            go_simp
          (try simp only [Act.put, List.setIfInBounds_toArray, List.set_cons_zero, List.set_cons_succ])
          refine wpAnyM.one (i := 2) (by kernel_rfl) rfl (fun K hK => ?_)
          go_simp
          have ie := (hI.out.x.keep t4.drew (fun h => h) (fun h => h) (fun h => h))
          refine (add_any o4.drew (by decide) (by decide) (by decide) ie (e := x) (kx := 5) ⟨_, rfl, (b4.front (by decide)).kn Step.rf.drew⟩ hn1 (by omega)).mono ?_
          rintro e w5 ⟨rfl, c5, i5, s5, o5⟩
          have u5 : Step (Two 1 2) c3 W4 c5 w5 := (Step.rf (c := c3) (w := W4)).drew.ofNo.trans s5
          refine hK.out _ _ (fun _ => hS u5 (by show ¬ (0 = 1 ∨ 0 = 2); decide)) ?_
          clear hK
          (try simp only [Act.put, List.setIfInBounds_toArray, List.set_cons_zero, List.set_cons_succ])
          have ir := (hI.out.r.keep t4 (fun h => h) (fun h => h) (fun h => h)).keep u5 (by show ¬ (3 = 1 ∨ 3 = 2); decide) (by show ¬ (4 = 1 ∨ 4 = 2); decide) (by show ¬ (0 = 1 ∨ 0 = 2); decide)
          refine wpAnyM.one (i := 8) (by kernel_rfl) rfl (fun K hK => ?_)
          go_simp
          refine (radd_any o5 (by decide) (by decide) (by decide) ir (e := x) (kx := 0) (TEntry.keep u5 (by show ¬ (0 = 1 ∨ 0 = 2); decide) (Ty.kn e1 t4)) (by omega)).mono ?_
          rintro e w6 ⟨rfl, c6, i6, s6, o6⟩
          have z : ∀ a b : Nat, a ≠ 0 → b ≠ 0 → ¬ Two a b 0 := fun a b ha hb h => by rcases h with h | h <;> omega
          have u6 : Step (fun j => j ≠ 0) c3 W4 c6 w6 := (u5.mono fun j h => by rcases h with h | h <;> omega).trans (s6.mono fun j h => by rcases h with h | h <;> omega)
          have K6 := hS u6 (by simp)
          refine hK.out _ _ (fun _ => K6) ?_
          clear hK
          (try simp only [Act.put, List.setIfInBounds_toArray, List.set_cons_zero, List.set_cons_succ])
          refine wpAnyM.take' (i := 9) (v := .bool false) (some 70) rfl rfl (by kernel_rfl) (by kernel_rfl) (by kernel_rfl) (by kernel_rfl) (fun _ _ _ h => h) (Or.inl ⟨by rfl, ?_⟩) K6 ?_
          · rintro W ⟨q0, q1, q2, q3, q4, q5, q6, q7, q8, q9, q10, q11⟩
            go_simp
          (try simp only [Act.put, List.setIfInBounds_toArray, List.set_cons_zero, List.set_cons_succ])
          refine wpAnyM.take' (i := 10) (v := .bool false) (some 71) rfl rfl (by kernel_rfl) (by kernel_rfl) (by kernel_rfl) (by kernel_rfl) (fun _ _ _ h => h) (Or.inl ⟨by rfl, ?_⟩) K6 ?_
          · rintro W ⟨q0, q1, q2, q3, q4, q5, q6, q7, q8, q9, q10, q11⟩
            go_simp
          (try simp only [Act.put, List.setIfInBounds_toArray, List.set_cons_zero, List.set_cons_succ])
          refine wpAnyM.take' (i := 11) (v := .pointer (some ⟨wr.heap.size, 5, none⟩)) (some 72) rfl rfl (by kernel_rfl) (by kernel_rfl) (by kernel_rfl) (by kernel_rfl) (fun _ _ _ h => h) (Or.inl ⟨by rfl, ?_⟩) K6 ?_
          · rintro W ⟨q0, q1, q2, q3, q4, q5, q6, q7, q8, q9, q10, q11⟩
            go_simp
          (try simp only [Act.put, List.setIfInBounds_toArray, List.set_cons_zero, List.set_cons_succ])
          refine wpAnyM.take' (i := 12) (v := .slice (some ⟨lb, lo, none⟩) x.bytes.length lcap) (some 73) rfl rfl (by kernel_rfl) (by kernel_rfl) (by kernel_rfl) (by kernel_rfl) (fun _ _ _ h => h) (Or.inl ⟨by rfl, ?_⟩) K6 ?_
          · rintro W ⟨q0, q1, q2, q3, q4, q5, q6, q7, q8, q9, q10, q11⟩
            go_simp
          (try simp only [Act.put, List.setIfInBounds_toArray, List.set_cons_zero, List.set_cons_succ])
          refine wpAnyM.take' (i := 13) (v := .slice (some ⟨g, off, none⟩) l.length vc) (some 74) rfl rfl (by kernel_rfl) (by kernel_rfl) (by kernel_rfl) (by kernel_rfl) (fun _ _ _ h => h) (Or.inl ⟨by rfl, ?_⟩) K6 ?_
          · rintro W ⟨q0, q1, q2, q3, q4, q5, q6, q7, q8, q9, q10, q11⟩
            go_simp
          (try simp only [Act.put, List.setIfInBounds_toArray, List.set_cons_zero, List.set_cons_succ])
          refine wpAnyM.take' (i := 14) (v := .int .i64 j) (some 75) rfl rfl (by kernel_rfl) (by kernel_rfl) (by kernel_rfl) (by kernel_rfl) (fun _ _ _ h => h) (Or.inl ⟨by rfl, ?_⟩) K6 ?_
          · rintro W ⟨q0, q1, q2, q3, q4, q5, q6, q7, q8, q9, q10, q11⟩
            go_simp
          (try simp only [Act.put, List.setIfInBounds_toArray, List.set_cons_zero, List.set_cons_succ])
          refine wpAnyM.take' (i := 15) (v := .pointer (some ⟨g, off + j * 6, none⟩)) (some 76) rfl rfl (by kernel_rfl) (by kernel_rfl) (by kernel_rfl) (by kernel_rfl) (fun _ _ _ h => h) (Or.inl ⟨by rfl, ?_⟩) K6 ?_
          · rintro W ⟨q0, q1, q2, q3, q4, q5, q6, q7, q8, q9, q10, q11⟩
            go_simp
          (try simp only [Act.put, List.setIfInBounds_toArray, List.set_cons_zero, List.set_cons_succ])
          refine wpAnyM.take' (i := 16) (v := .pointer (some ⟨g, off + j * 6 + 5, none⟩)) (some 77) rfl rfl (by kernel_rfl) (by kernel_rfl) (by kernel_rfl) (by kernel_rfl) (fun _ _ _ h => h) (Or.inl ⟨by rfl, ?_⟩) K6 ?_
          · rintro W ⟨q0, q1, q2, q3, q4, q5, q6, q7, q8, q9, q10, q11⟩
            go_simp
          (try simp only [Act.put, List.setIfInBounds_toArray, List.set_cons_zero, List.set_cons_succ])
          refine wpAnyM.take' (i := 17) (v := .slice ba x.bytes.length bc) (some 78) rfl rfl (by kernel_rfl) (by kernel_rfl) (by kernel_rfl) (by kernel_rfl) (fun _ _ _ h => h) (Or.inl ⟨by rfl, ?_⟩) K6 ?_
          · rintro W ⟨q0, q1, q2, q3, q4, q5, q6, q7, q8, q9, q10, q11⟩
            go_simp
          (try simp only [Act.put, List.setIfInBounds_toArray, List.set_cons_zero, List.set_cons_succ])
          have b6 := (b4.keep u5 (by show ¬ (5 = 1 ∨ 5 = 2); decide) (by show ¬ (5 = 1 ∨ 5 = 2); decide)).keep s6 (by show ¬ (5 = 3 ∨ 5 = 4); decide) (by show ¬ (5 = 3 ∨ 5 = 4); decide)
          have e6 := (e2.kn t4).keep u6 (by simp) (by simp)
          refine wpAnyM.one (i := 18) (by kernel_rfl) rfl (fun K hK => ?_)
          go_simp
          refine (keptBytes_any o6 e6 g1 g2 b6).mono ?_
          rintro e w7 ⟨rfl, s7, o7⟩
          have u7 := u6.trans (s7.ofNo (K := fun j => j ≠ 0))
          have K7 := hS u7 (by simp)
          refine hK.out _ _ (fun _ => K7) ?_
          clear hK
          (try simp only [Act.put, List.setIfInBounds_toArray, List.set_cons_zero, List.set_cons_succ])
          refine wpAnyM.one (i := 19) (by kernel_rfl) rfl (fun K hK => ?_)
          go_simp
          refine hK.out _ _ (fun _ => K7) ?_
          clear hK
          (try simp only [Act.put, List.setIfInBounds_toArray, List.set_cons_zero, List.set_cons_succ])
          refine wpAnyM.one (i := 20) (by kernel_rfl) rfl (fun K hK => ?_)
          go_simp
          refine hK.out _ _ (fun _ => K7) ?_
          clear hK
          (try simp only [Act.put, List.setIfInBounds_toArray, List.set_cons_zero, List.set_cons_succ])
          refine wpAnyM.done (by kernel_rfl) ?_ _
          obtain ⟨p0, p1, p2, p3, p4, p5, p6, p7, p8, p9, p10, p11⟩ := K7
          clear K1 K6 A4 y0 y1 y2 y3 y4 y5 p6 p7 p8 p9 p10 p11
          have b7 := (b6.kn s7).front (by decide)
          have i7x := (((i5.keep s6 (by show ¬ (1 = 3 ∨ 1 = 4); decide) (by show ¬ (2 = 3 ∨ 2 = 4); decide) (by show ¬ (0 = 3 ∨ 0 = 4); decide))).keep s7 (fun h => h) (fun h => h) (fun h => h))
          have i7r := i6.keep s7 (fun h => h) (fun h => h) (fun h => h)
          obtain ⟨L2, hL2⟩ : ∃ L2, addNew n L x = L2 := ⟨_, rfl⟩
          have ha1 : ∀ e ∈ L2, e ∈ L ∨ e = x.kept := by
            intro e he; subst hL2; unfold addNew at he; split at he
            · simpa using he
            · exact .inl he
          have ha2 : L2.length ≤ j + 1 := by
            subst hL2; have := hI.out.len; unfold addNew; split
            · simp; omega
            · omega
          have ha3 : ∀ e ∈ L2, e.kept = e := fun e he => by
            rcases ha1 e he with h | rfl
            · exact hI.out.kept e h
            · exact kept_kept x
          have ha4 : ∀ e ∈ L2, e.bytes.length ≤ 1500 := fun e he => by
            rcases ha1 e he with h | rfl
            · exact hI.out.bytes e h
            · exact Nat.le_trans (kept_len x) hxb
          have ha5 : L2.length ≤ 65536 := by omega
          have ha6 : ∀ e ∈ L2, e.bytes.length ≤ 1000000000 := fun e he => by have := ha4 e he; omega
          have m1 : L2.map Entry.kept = L2 := map_kept ha3
          have m2 : (aboutL L2 who).map Entry.kept = aboutL L2 who := map_kept (fun e he => ha3 e (by unfold aboutL at he; exact (List.mem_filter.1 he).1))
          rw [hL2] at i7x i7r
          have U7 : Step (fun j => j ≠ 0) (fun _ => 0) w c6 w7 := (hI.out.step.trans (t4.ofNo)).trans u7
          have HH := Lib.hid (And.intro m1 (And.intro m2 (And.intro ha2 (And.intro ha3 ha4))))
          clear hL2 ha1 ha2 ha3 ha4 m1 m2 i5 i6 s5 s6 s7 u5 u6 u7 b4 b6 e6 ie ir t4 o4 o5 o6 hS I hl z e1 e2 hgc hgl hg hcg hg4 p0 p1 p2 p3 p4 hj
          go_wp2_with fail
          have O8 := overBytes_any o7 (k := 5) (by decide) (n := x.bytes.length) ⟨x.bytes, rfl, b7⟩
          with_reducible refine O8.mono ?_
          rintro e w8 ⟨rfl, s8, o8, _⟩
          have i8x := i7x.keep s8 (by show ¬ (1 = 5); decide) (by show ¬ (2 = 5); decide) (by show ¬ (0 = 5); decide)
          have i8r := i7r.keep s8 (by show ¬ (3 = 5); decide) (by show ¬ (4 = 5); decide) (by show ¬ (0 = 5); decide)
          have U8 := U7.trans (s8.mono (K' := fun j => j ≠ 0) fun j h => by cases h; decide)
          clear i7x i7r U7 s8 b7 p5 o7
          go_wp2_with fail
          with_reducible refine (list_any o8 i8x hn1 ha5 ha6 6 7).mono ?_
          rintro e w9 ⟨va, c9, rfl, h9, s9, o9⟩
          rw [HH.out.1] at h9
          obtain ⟨aa, ac, rfl, _⟩ := h9.form
          have i9x := i8x.keep s9 (fun h => h) (fun h => h) (fun h => h)
          have i9r := i8r.keep s9 (fun h => h) (fun h => h) (fun h => h)
          have U9 := U8.trans (s9.ofNo (K := fun j => j ≠ 0))
          clear i8x i8r U8 s9 o8
          go_wp2_with fail
          with_reducible refine (of_any o9 i9x hn1 ha5 ha6 who 8 9).mono ?_
          rintro e w10 ⟨vb, c10, rfl, h10, s10, o10⟩
          rw [HH.out.2.1] at h10
          obtain ⟨ab, bc', rfl, _⟩ := h10.form
          have i10x := i9x.keep s10 (fun h => h) (fun h => h) (fun h => h)
          have i10r := i9r.keep s10 (fun h => h) (fun h => h) (fun h => h)
          have h10a := h9.kn s10
          have U10 := U9.trans (s10.ofNo (K := fun j => j ≠ 0))
          clear i9x i9r U9 s10 o9 h9
          obtain ⟨vw, hvw, oww⟩ := i10r.row
          obtain ⟨wa, wc, rfl, _⟩ := oww.sl.form
          go_wp2_with fail
          with_reducible refine (sameEntries_eq h10a oww.sl).mono ?_
          rintro e w11 ⟨rfl, n11, rfl⟩
          have d11 : Step No c10 w10 c10 (w10.drewN n11) := Step.rf.drewN n11
          have i11x := i10x.keep d11 (fun h => h) (fun h => h) (fun h => h)
          have i11r := i10r.keep d11 (fun h => h) (fun h => h) (fun h => h)
          go_wp2_with fail
          with_reducible refine (rof_any (o10.drewN n11) i11r ha5 who 10).mono ?_
          rintro e w12 ⟨vo, c12, rfl, h12, s12, o12⟩
          obtain ⟨oa, oc, hoo, _⟩ := h12.sl.form
          subst hoo
          have t12 := d11.trans s12
          have i12x := i10x.keep t12 (fun h => h) (fun h => h) (fun h => h)
          have i12r := i10r.keep t12 (fun h => h) (fun h => h) (fun h => h)
          have h12a := h10a.kn t12
          have h12b := h10.kn t12
          have U12 := U10.trans (t12.ofNo (K := fun j => j ≠ 0))
          clear i10x i10r i11x i11r d11 s12 t12 h10 h10a U10 hvw oww o10
          go_wp2_with fail
          with_reducible refine (sameEntries_eq h12b h12.sl).mono ?_
          rintro e w13 ⟨rfl, n13, rfl⟩
          have d13 : Step No c12 w12 c12 (w12.drewN n13) := Step.rf.drewN n13
          have i13x := i12x.keep d13 (fun h => h) (fun h => h) (fun h => h)
          go_wp2_with fail
          with_reducible refine (strikes_any (o12.drewN n13) i13x hn1 (by omega) who).mono ?_
          rintro e w14 ⟨rfl, c14, s14, o14⟩
          have t14 := d13.trans s14
          have i14x := i12x.keep t14 (fun h => h) (fun h => h) (fun h => h)
          have i14r := i12r.keep t14 (fun h => h) (fun h => h) (fun h => h)
          have h14a := h12a.kn t14
          have h14b := h12b.kn t14
          have U14 := U12.trans (t14.ofNo (K := fun j => j ≠ 0))
          clear i12x i12r i13x d13 s14 t14 h12 h12a h12b U12 o12
          go_wp2_with fail
          with_reducible refine (rstrikes_any o14 i14r who).mono ?_
          rintro e w15 ⟨rfl, s15, o15⟩
          have i15x := i14x.keep s15 (fun h => h) (fun h => h) (fun h => h)
          go_wp2_with fail
          with_reducible refine (gone_any o15 i15x hn1 (by omega) who most).mono ?_
          rintro e w16 ⟨rfl, c16, s16, o16⟩
          have t16 := s15.trans s16
          have i16r := i14r.keep t16 (fun h => h) (fun h => h) (fun h => h)
          go_wp2_with fail
          with_reducible refine (rgone_any o16 i16r who most).mono ?_
          rintro e w17 ⟨rfl, s17, o17⟩
          have t17 := t16.trans s17
          have h17a := h14a.kn t17
          have h17b := h14b.kn t17
          have i17x := i14x.keep t17 (fun h => h) (fun h => h) (fun h => h)
          have i17r := i14r.keep t17 (fun h => h) (fun h => h) (fun h => h)
          have U17 := U14.trans (t17.ofNo (K := fun j => j ≠ 0))
          clear i14x i14r i15x i16r s15 s16 t16 s17 t17 h14a h14b U14 o14 o15 o16
          go_wp2_with fail
          with_reducible refine (overEntries_any o17 (k := 6) (k2 := 7) (by decide) (by decide) (by decide) h17a).mono ?_
          rintro e w18 ⟨rfl, s18, o18⟩
          have h18b := h17b.keep s18 (by show ¬ (8 = 6 ∨ 8 = 7); decide) (by show ¬ (9 = 6 ∨ 9 = 7); decide)
          go_wp2_with fail
          with_reducible refine (overEntries_any o18 (k := 8) (k2 := 9) (by decide) (by decide) (by decide) h18b).mono ?_
          rintro e w19 ⟨rfl, s19, o19⟩
          have t19 := (s18.mono (K' := fun j => 6 ≤ j) fun j h => by rcases h with h | h <;> omega).trans (s19.mono (K' := fun j => 6 ≤ j) fun j h => by rcases h with h | h <;> omega)
          have i19x := i17x.keep t19 (by decide) (by decide) (by decide)
          have i19r := i17r.keep t19 (by decide) (by decide) (by decide)
          have U19 := U17.trans (t19.mono (K' := fun j => j ≠ 0) fun j h => by omega)
          clear i17x i17r s18 s19 t19 h17a h17b h18b U17 o17 o18
          go_wp2_with fail
          go_roundw
          case rel => exact ⟨j + 1, L2, _, by go_num, ⟨by omega, HH.out.2.2.1, U19, o19, i19x, i19r, HH.out.2.2.2.1, HH.out.2.2.2.2⟩⟩
          case measure => simp [intOf]; omega
        · go_wp2_with fail
          refine (awake_any I.ok).mono ?_
          rintro e w3 ⟨rfl, c3, s3, _⟩
          go_wp2_with fail
          go_ret
          exact ⟨rfl, bel (I.step.trans s3.ofNo) (by simp)⟩
end Go.Proofs.Ytcagfdmafelbkaa
