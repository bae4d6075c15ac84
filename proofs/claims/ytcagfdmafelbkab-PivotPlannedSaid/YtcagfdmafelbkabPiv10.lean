/- Pivot: Plan. -/
import Derived.Test.YtcagfdmafelbkabPiv9
import Derived.Sort.CutIn
set_option linter.unusedVariables false
set_option linter.unusedSimpArgs false
namespace Go.Proofs.Ytcagfdmafelbkab
open Go.RowKit Go.WideMaps Go.Shelf
attribute [local go_sem] Oper.semAt_some

theorem splitS_ne {s : Stk} (h : splitE s ≠ 0) : splitS s = s := by
  unfold splitE at h
  unfold splitS
  by_cases hc : s.l = [] ∨ topL s.l = s.low + 1
  · rw [if_pos hc]
  · rw [if_neg hc] at h; exact absurd rfl h

theorem splitH_has {s : Stk} (g : Good s) (h : splitE s = 0) : IntKind.i64.has (splitH s) := by
  obtain ⟨h1, _, h3, h4⟩ := splitS_eq h
  have ht := g.top h1
  have hm := mid_lt ht.2 h3
  rw [h4]
  exact isH.has ⟨by have := g.low.1; omega, by have := ht.1.2; omega⟩

def K6 (a b c d e f : Nat) : Nat → Prop := fun j => j = a ∨ j = b ∨ j = c ∨ j = d ∨ j = e ∨ j = f

/-- Plan's memory: its two results' cells, their rows, the stack, the cell that holds it. -/
structure PW (kn kn2 q q2 ks kr b6 b7 b10 bs : Nat) (c : Col) (W : World) (va vb : Value) (pre : List Tri) (asked : List Int) (s : Stk) : Prop where
  st : IsSt c ks kr W bs s
  a6 : At c W b6 kn [va]
  o6 : Own TTri 41 c q 0 W va pre
  a7 : At c W b7 kn2 [vb]
  o7 : Own (TInt .i64) 3 c q2 0 W vb asked
  a10 : At c W b10 0 [.pointer (some ⟨bs, 0, none⟩)]

theorem PW.keep {kn kn2 q q2 ks kr b6 b7 b10 bs : Nat} {c c' : Col} {W W' : World} {va vb : Value} {pre : List Tri} {asked : List Int} {s : Stk} {K : Nat → Prop} (h : PW kn kn2 q q2 ks kr b6 b7 b10 bs c W va vb pre asked s) (hs : Step K c W c' W')
    (h1 : ¬ K kn) (h2 : ¬ K kn2) (h3 : ¬ K q) (h4 : ¬ K q2) (h5 : ¬ K ks) (h6 : ¬ K kr) (h0 : ¬ K 0) : PW kn kn2 q q2 ks kr b6 b7 b10 bs c' W' va vb pre asked s :=
  ⟨h.st.keep hs h5 h6 h0, h.a6.keep hs h1, h.o6.keep hs h3 h0, h.a7.keep hs h2, h.o7.keep hs h4 h0, h.a10.keep hs h0⟩
theorem PW.kn' {kn kn2 q q2 ks kr b6 b7 b10 bs : Nat} {c c' : Col} {W W' : World} {va vb : Value} {pre : List Tri} {asked : List Int} {s : Stk} (h : PW kn kn2 q q2 ks kr b6 b7 b10 bs c W va vb pre asked s) (hs : Step No c W c' W') : PW kn kn2 q q2 ks kr b6 b7 b10 bs c' W' va vb pre asked s :=
  h.keep hs (fun h => h) (fun h => h) (fun h => h) (fun h => h) (fun h => h) (fun h => h) (fun h => h)

/-- Where a plan stands: what was tried and asked for, and the stack. -/
structure planI (hs : List Pair) (r t : Int) (pre : List Tri) (asked : List Int) (s : Stk) : Prop where
  fine : Fine s
  eq : plan hs (newS r t) = (pre ++ (plan hs s).1, asked ++ (plan hs s).2.1, (plan hs s).2.2)
  mu : pre.length + muS s ≤ 10000
  al : asked.length ≤ pre.length

theorem planI.len {hs : List Pair} {r t : Int} {pre : List Tri} {asked : List Int} {s : Stk} (h : planI hs r t pre asked s) : s.l.length ≤ 1000000000 := by
  have h1 := h.fine.room
  have h2 := h.mu
  unfold muS at h2
  omega

theorem planI.start {hs : List Pair} {r t : Int} (f : Fine (newS r t)) (h : t - r ≤ 4096) : planI hs r t [] [] (newS r t) :=
  ⟨f, by simp, by simp [muS, newS]; omega, Nat.le_refl _⟩

theorem planI.pop {hs : List Pair} {r t : Int} {pre : List Tri} {asked : List Int} {s : Stk} (h : planI hs r t pre asked s) (hl : s.l ≠ []) (hh : (tri hs s).held = true) : planI hs r t (pre ++ [tri hs s]) asked (popS s) := by
  have hm := muS_pop h.fine hl
  have h2 := h.mu
  refine ⟨h.fine.pop hl, ?_, by simp; omega, by have := h.al; simp; omega⟩
  rw [h.eq, plan_pop h.fine hl hh]
  simp

theorem planI.split {hs : List Pair} {r t : Int} {pre : List Tri} {asked : List Int} {s : Stk} (h : planI hs r t pre asked s) (hh : (tri hs s).held = false) (he : splitE s = 0) : planI hs r t (pre ++ [tri hs s]) (asked ++ [splitH s]) (splitS s) := by
  have hm := muS_split h.fine he
  have h2 := h.mu
  refine ⟨h.fine.split he, ?_, by simp; omega, by have := h.al; simp; omega⟩
  rw [h.eq, plan_split h.fine hh he]
  simp

theorem planI.broken {hs : List Pair} {r t : Int} {pre : List Tri} {asked : List Int} {s : Stk} (h : planI hs r t pre asked s) (hl : s.l ≠ []) (hh : (tri hs s).held = false) (he : splitE s ≠ 0) : plan hs (newS r t) = (pre ++ [tri hs s], asked, false) := by
  rw [h.eq, plan_broken hl hh he]
  simp

theorem planI.done {hs : List Pair} {r t : Int} {pre : List Tri} {asked : List Int} {s : Stk} (h : planI hs r t pre asked s) (hl : s.l = []) : plan hs (newS r t) = (pre, asked, true) := by
  rw [h.eq, plan_nil hl]
  simp

section
variable {c : Col} {w : World}

theorem tries_any0 (a : Option Addr) (g : FuncId) (cp : Array Value) (w : World) :
    Calls Try.prog 31 #[.pointer a, .func (.func g) #[] cp] w fun e w' => e = .returned (.func (.func 35) #[] #[.pointer (some ⟨w.heap.size, 0, none⟩), .pointer (some ⟨w.heap.size + 1, 0, none⟩)]) ∧
      w' = (w.alloc (.cells #[.pointer a] 25)).alloc (.cells #[.func (.func g) #[] cp] 66) := by
  have hmf : ∀ (fn : Fn) (first cap : Array Value) (w : World), (Instr.makeFunc fn first cap).run Try.prog w = .ok (.func fn first cap) w := fun _ _ _ _ => rfl
  go_enter Try.func31, Try.ntmps31
  go_wp2
  go_ret
  exact ⟨rfl, rfl⟩

theorem plan_range (hok : Ok c w) (r t : Int) (v : Value) (h : ¬ (isH r ∧ isH t)) :
    Calls Try.prog 14 #[.int .i64 r, .int .i64 t, v] w fun e w' => e = .returned (.tuple #[.slice none 0 0, .slice none 0 0, .bool false, .int .i64 3]) ∧ Step No c w c w' ∧ Ok c w' := by
  have N1 := fun W => new_range r t W h
  clear h
  go_enter Try.func14, Try.ntmps14
  go_wp2_with fail
  refine (N1 _).mono ?_
  rintro e w1 ⟨rfl, rfl⟩
  go_wp2
  exact bodyPost_ret (v := .tuple #[.slice none 0 0, .slice none 0 0, .bool false, .int .i64 3]) (by simp [results, Try.results14, go_sem]) rfl ⟨rfl, ((Step.al _).alloc _).alloc _, ((hok.alloc _).alloc _).alloc _⟩

theorem plan_height (hok : Ok c w) (r t : Int) (v : Value) (ha : isH r) (hb : isH t) (h : t ≤ r) :
    Calls Try.prog 14 #[.int .i64 r, .int .i64 t, v] w fun e w' => e = .returned (.tuple #[.slice none 0 0, .slice none 0 0, .bool false, .int .i64 13]) ∧ Step No c w c w' ∧ Ok c w' := by
  have N1 := fun W => new_height r t W ha hb h
  clear h ha hb
  go_enter Try.func14, Try.ntmps14
  go_wp2_with fail
  refine (N1 _).mono ?_
  rintro e w1 ⟨rfl, rfl⟩
  go_wp2
  exact bodyPost_ret (v := .tuple #[.slice none 0 0, .slice none 0 0, .bool false, .int .i64 13]) (by simp [results, Try.results14, go_sem]) rfl ⟨rfl, ((Step.al _).alloc _).alloc _, ((hok.alloc _).alloc _).alloc _⟩

theorem plan_far (hok : Ok c w) (r t : Int) (v : Value) (ha : isH r) (hb : isH t) (h : r < t) (hf : 4096 < t - r) :
    Calls Try.prog 14 #[.int .i64 r, .int .i64 t, v] w fun e w' => e = .returned (.tuple #[.slice none 0 0, .slice none 0 0, .bool false, .int .i64 4]) ∧ ∃ c', Step No c w c' w' ∧ Ok c' w' := by
  obtain ⟨kn, hkn, hknc⟩ := hok.spare 0
  obtain ⟨a6, o6, s6⟩ := newAt hok [.slice none 0 0] 37 kn
  obtain ⟨a7, o7, s7⟩ := newAt o6 [.slice none 0 0] 22 kn
  rw [World.size_alloc] at a7 o7 s7
  have b6 := a6.keep s7 (fun h => h)
  have N1 := newst_ok o7 r t ha hb h 1 2
  have z1 := ha.1
  have z2 := ha.2
  have z3 := hb.1
  have z4 := hb.2
  have S7 := Lib.hid (s6.trans s7)
  clear ha hb a6 o6 s6 s7 o7
  go_enter Try.func14, Try.ntmps14
  go_wp2_with fail
  refine N1.mono ?_
  rintro e w1 ⟨rfl, c1, i1, s1, o1⟩
  have c6 := b6.keep s1 (fun h => h)
  have c7 := a7.keep s1 (fun h => h)
  have e6 := c6.c0
  have e7 := c7.c0
  have f6 := c6.fz o1 (by omega) 0
  have f7 := c7.fz o1 (by omega) 0
  have l6 := c6.lt
  have l7 := c7.lt
  have st : Step (One kn) (fun b => c1 b) w1 c1 ((w1.setCell ⟨w.heap.size, 0, none⟩ (.slice none 0 0)).setCell ⟨w.heap.size + 1, 0, none⟩ (.slice none 0 0)) :=
    (Step.refl.setCell (a := ⟨w.heap.size, 0, none⟩) (.inr c6.col) _).setCell (a := ⟨w.heap.size + 1, 0, none⟩) (.inr c7.col) _
  have S8 : Step No c w c1 ((w1.setCell ⟨w.heap.size, 0, none⟩ (.slice none 0 0)).setCell ⟨w.heap.size + 1, 0, none⟩ (.slice none 0 0)) := ((S7.out.trans s1).ofNo.trans st).own hknc
  have O8 := (o1.setCell ⟨w.heap.size, 0, none⟩ (.slice none 0 0)).setCell ⟨w.heap.size + 1, 0, none⟩ (.slice none 0 0)
  have H := Lib.hid (And.intro S8 O8)
  clear N1 i1 b6 a7 s1 o1 c6 c7 st S8 O8
  go_wp2
  have r6 : ((w1.setCell ⟨w.heap.size, 0, none⟩ (.slice none 0 0)).setCell ⟨w.heap.size + 1, 0, none⟩ (.slice none 0 0)).cell? ⟨w.heap.size, 0, none⟩ = some (.slice none 0 0) := by
    rw [World.cell?_setCell_other _ _ _ _ (by intro h; injection h with h1 h2; omega)]
    exact World.cell?_setCell_same' _ _ _ (by rw [e6]; rfl)
  have r7 : ((w1.setCell ⟨w.heap.size, 0, none⟩ (.slice none 0 0)).setCell ⟨w.heap.size + 1, 0, none⟩ (.slice none 0 0)).cell? ⟨w.heap.size + 1, 0, none⟩ = some (.slice none 0 0) := by
    refine World.cell?_setCell_same' _ _ _ ?_
    rw [World.cell?_setCell_other _ _ _ _ (by intro h; injection h with h1 h2; omega), e7]; rfl
  obtain ⟨W, hW⟩ : ∃ W, (w1.setCell ⟨w.heap.size, 0, none⟩ (.slice none 0 0)).setCell ⟨w.heap.size + 1, 0, none⟩ (.slice none 0 0) = W := ⟨_, rfl⟩
  have zW : W.heap.size = w1.heap.size := by rw [← hW, size_setCell, size_setCell]
  rw [hW] at r6 r7 H ⊢
  clear hW
  have x6 := ((Step.al (c := c1) (w := W) (.cells #[.pointer (some ⟨w.heap.size + 1 + 1, 0, none⟩)] 25)).cell (b := w.heap.size) (o := 0) (by omega) (fun h => h)).trans r6
  have x7 := ((Step.al (c := c1) (w := W) (.cells #[.pointer (some ⟨w.heap.size + 1 + 1, 0, none⟩)] 25)).cell (b := w.heap.size + 1) (o := 0) (by omega) (fun h => h)).trans r7
  exact bodyPost_ret (v := .tuple #[.slice none 0 0, .slice none 0 0, .bool false, .int .i64 4]) (by simp [results, Try.results14, go_sem, x6, x7]) rfl ⟨rfl, c1, H.out.1.alloc _, H.out.2.alloc _⟩

set_option maxRecDepth 100000 in
set_option maxHeartbeats 1600000 in
theorem plan_main (hok : Ok c w) (r t : Int) {kx kx2 : Nat} {v : Value} {hs : List Pair} (hv : Sl TPair c kx kx2 w v hs) (ha : isH r) (hb : isH t) (h : r < t) (hf : t - r ≤ 4096) (hlen : hs.length ≤ 1000000000) (ka kb : Nat) :
    Calls Try.prog 14 #[.int .i64 r, .int .i64 t, v] w fun e w' => ∃ va vb, e = .returned (.tuple #[va, vb, .bool (plan hs (newS r t)).2.2, .int .i64 0]) ∧
      ∃ c', Sl TTri c' ka 0 w' va (plan hs (newS r t)).1 ∧ Sl (TInt .i64) c' kb 0 w' vb (t :: (plan hs (newS r t)).2.1) ∧ Step No c w c' w' ∧ Ok c' w' := by
  obtain ⟨kn, hkn, hknc⟩ := hok.spare (ka + kb)
  obtain ⟨kn2, hkn2, hkn2c⟩ := hok.spare kn
  obtain ⟨q, hq, hqc⟩ := hok.spare kn2
  obtain ⟨q2, hq2, hqc2⟩ := hok.spare q
  obtain ⟨ks, hks, hksc⟩ := hok.spare q2
  obtain ⟨kr, hkr, hkrc⟩ := hok.spare ks
  obtain ⟨km, hkm, hkmc⟩ := hok.spare kr
  obtain ⟨a6, o6, s6⟩ := newAt hok [.slice none 0 0] 37 kn
  obtain ⟨a7, o7, s7⟩ := newAt o6 [.slice none 0 0] 22 kn2
  rw [World.size_alloc] at a7 o7 s7
  have b6 := a6.keep s7 (fun h => h)
  have N1 := newst_ok o7 r t ha hb h ks kr
  have f0 := newS_fine ha hb h
  have z1 := ha.1
  have z2 := ha.2
  have z3 := hb.1
  have z4 := hb.2
  have z5 : decide (4096 < t - r) = false := by simp; omega
  have M1 : ∀ W, (Instr.makeMap 59 none).run Try.prog W = .ok (.map (some W.heap.size)) (W.alloc (.map #[] 0)) := fun W => by simp [Instr.makeMap, newObj, go_sem]; rfl
  have S7 := Lib.hid (s6.trans s7)
  have hhas := hb.has
  obtain ⟨kx', hv', hkx⟩ := (show Sl TPair c kx 0 w v hs from hv).colour
  have hkx2 : ∀ k, 0 < k → (∀ b, c b ≠ k) → kx' ≠ k := fun k h0 hc e => by
    rcases hkx with h | ⟨b, hb⟩
    · omega
    · exact hc b (hb.trans e)
  obtain ⟨va0, vc0, rfl, _⟩ := hv'.form
  have HV := Lib.hid (And.intro hv' hkx2)
  clear ha hb a6 o6 s6 s7 o7 hv
  refine calls_of_wp_marks Try.func14 rfl ?_
  simp only [Try.ntmps14, List.size_toArray, List.length_cons, List.length_nil, Nat.reduceAdd, Nat.reduceSub, Array.replicate_succ, Array.replicate_zero, List.push_toArray, List.append_toArray, List.nil_append, List.cons_append]
  go_wp2_with fail
  refine N1.mono ?_
  rintro e w1 ⟨rfl, c1, i1, s1, o1⟩
  have S1 : Step No c w c1 w1 := S7.out.trans s1
  have c6 := b6.keep s1 (fun h => h)
  have c7 := a7.keep s1 (fun h => h)
  rw [World.size_alloc, World.size_alloc] at i1
  have l17 : w.heap.size + 1 < w1.heap.size := c7.lt
  clear N1 b6 a7 s1 S7
  go_wp2
  have at10 := At.new0 o1 [.pointer (some ⟨w.heap.size + 1 + 1, 0, none⟩)] 25
  have o2 := o1.alloc (.cells #[.pointer (some ⟨w.heap.size + 1 + 1, 0, none⟩)] 25)
  obtain ⟨m3, o3, s3⟩ := IsMap.new (P := Try.prog) (kt := 36) (kv := pairV) (vv := unitV) o2 km
  have at11 := At.new0 o3 [.map (some (w1.heap.size + 1))] 59
  have o4 := o3.alloc (.cells #[.map (some (w1.heap.size + 1))] 59)
  have s4 := Step.al (c := (c1.put (w1.alloc (.cells #[.pointer (some ⟨w.heap.size + 1 + 1, 0, none⟩)] 25)).heap.size km)) (w := (w1.alloc (.cells #[.pointer (some ⟨w.heap.size + 1 + 1, 0, none⟩)] 25)).alloc (.map #[] 0)) (.cells #[.map (some (w1.heap.size + 1))] 59)
  simp only [World.size_alloc] at at10 m3 s3 at11 o4 s4
  have S2 := (Step.al (c := c1) (w := w1) (.cells #[.pointer (some ⟨w.heap.size + 1 + 1, 0, none⟩)] 25)).trans (s3.trans s4)
  have S4 := S1.trans S2
  have d6 := c6.keep S2 (fun h => h)
  have d7 := c7.keep S2 (fun h => h)
  have d10 := at10.keep (s3.trans s4) (fun h => h)
  have m4 := m3.kn s4
  have i4 := i1.kn S2
  have hset0 : setOf ([] : List Pair) = fun _ => none := by funext p; simp [setOf]
  rw [← hset0] at m4
  obtain ⟨Wl, hWl⟩ : ∃ Wl, ((w1.alloc (.cells #[.pointer (some ⟨w.heap.size + 1 + 1, 0, none⟩)] 25)).alloc (.map #[] 0)).alloc (.cells #[.map (some (w1.heap.size + 1))] 59) = Wl := ⟨_, rfl⟩
  obtain ⟨c4, hc4⟩ : ∃ c4, c1.put (w1.heap.size + 1) km = c4 := ⟨_, rfl⟩
  rw [hWl, hc4] at o4 S4 d6 d7 d10 m4 i4
  rw [hWl, hc4] at at11
  rw [hWl]
  clear hWl hc4 hset0 at10 o2 m3 o3 s3 s4 S2 c6 c7 i1 S1 o1
  go_loopw [35] (fun i wr => ∃ (j : Nat), j ≤ hs.length ∧ i = .int .i64 j ∧ Step (One km) c4 Wl c4 wr ∧ Ok c4 wr ∧ IsPairs c4 km wr (w1.heap.size + 1) (hs.take j) j) (fun i _ => hs.length - (intOf i).toNat)
  case atStart => exact ⟨0, Nat.zero_le _, rfl, Step.refl, o4, m4⟩
  case round =>
    obtain ⟨j, hj, rfl, sj, oj, mj⟩ := hrel
    have e11 := (at11.keep sj (by show ¬ 0 = km; omega)).c0
    by_cases hlt : j < hs.length
    · obtain ⟨x, hx⟩ : ∃ x, hs[j]? = some x := ⟨hs[j], by simp [hlt]⟩
      have hvj : Sl TPair c4 kx' 0 wr (.slice va0 hs.length vc0) hs := (HV.out.1.kn S4).keep sj (HV.out.2 km (by omega) hkmc) (by show ¬ 0 = km; omega)
      obtain ⟨g, off, cap, hva, hlc, hcm, hgc, hgl⟩ := hvj.ex (by omega)
      cases hva
      obtain ⟨y0, y1, h0, h1⟩ := pair_at hvj hx
      have mja := mj.kn (Step.al (c := c4) (w := wr) (.cells #[.int .i64 x.1, .int .i64 x.2] 36))
      obtain ⟨W', hup, m5, s5, o5⟩ := mja.update (oj.alloc (.cells #[.int .i64 x.1, .int .i64 x.2] 36)) pairLaw pairV_inj Try.underlying59 (by simp [maxLen]; omega) x () (pair_key h0 h1)
      have hm5 : (fun y' => if y' = x then some () else setOf (hs.take j) y') = setOf (hs.take (j + 1)) := by
        funext y
        have ht : hs.take (j + 1) = hs.take j ++ [x] := by
          rw [List.take_add_one, hx]; rfl
        unfold setOf
        rw [ht]
        by_cases e : y = x
        · subst e; simp
        · simp [e]
      rw [hm5] at m5
      have hup' : (Instr.mapUpdate 59 (.map (some (w1.heap.size + 1))) (.agg #[.int .i64 x.1, .int .i64 x.2]) (.agg #[])).run Try.prog (wr.alloc (.cells #[.int .i64 x.1, .int .i64 x.2] 36)) = .ok () W' := hup
      have lt11 : w1.heap.size + 1 + 1 < wr.heap.size := (at11.keep sj (by show ¬ 0 = km; omega)).lt
      have X := Lib.hid (And.intro m5 (And.intro s5 o5))
      clear hx hup mja hm5 m5 s5 o5
      go_wp2
      obtain ⟨m5, s5, o5⟩ := X.out
      go_roundw
      case rel => exact ⟨j + 1, by omega, by go_num, (sj.alloc _).trans s5, o5, m5⟩
      case measure => simp [intOf]; omega
    · have hjl : j = hs.length := by omega
      rw [hjl, List.take_length] at mj
      have HJ := Lib.hid (And.intro hjl mj)
      clear hjl mj hj hlt
      have S5 : Step No c w c4 wr := (S4.ofNo.trans sj).own hkmc
      have g6 := d6.keep sj (by show ¬ kn = km; omega)
      have g7 := d7.keep sj (by show ¬ kn2 = km; omega)
      have g10 := d10.keep sj (by show ¬ 0 = km; omega)
      have g11 := at11.keep sj (by show ¬ 0 = km; omega)
      have i5 := i4.keep sj (by show ¬ ks = km; omega) (by show ¬ kr = km; omega) (by show ¬ 0 = km; omega)
      have z6 : decide (j < hs.length) = false := by have := HJ.out.1; simp; omega
      have l7 := g7.lt
      have l10 := g10.lt
      have x7 := g7.c0
      have y7 := g7.fz oj (by omega) 0
      have x10 := g10.c0
      have sS : Step (One kn2) c4 wr c4 (wr.setCell ⟨w.heap.size + 1, 0, none⟩ (.slice (some ⟨wr.heap.size, 0, none⟩) 1 1)) := Step.refl.setCell (.inr g7.col) _
      have oS := oj.setCell ⟨w.heap.size + 1, 0, none⟩ (.slice (some ⟨wr.heap.size, 0, none⟩) 1 1)
      obtain ⟨n1, n2, n3⟩ := Own.new (TInt .i64) 3 oS q2 0 [[.int .i64 t]] [t] rfl (by simp [maxLen]) (fun i x hi => by
        have h0 : i = 0 := by have := (List.getElem?_eq_some_iff.1 hi).1; simp at this; omega
        subst h0; simp at hi; subst hi; exact ⟨_, rfl, rfl, hhas⟩) (by simp [TInt])
      simp only [size_setCell, List.flatten_cons, List.flatten_nil, List.append_nil, List.length_cons, List.length_nil, Nat.zero_add] at n1 n2 n3
      have S6 : Step No c w (c4.put wr.heap.size q2) ((wr.setCell ⟨w.heap.size + 1, 0, none⟩ (.slice (some ⟨wr.heap.size, 0, none⟩) 1 1)).alloc (.cells #[.int .i64 t] 3)) := ((S5.ofNo.trans sS).own hkn2c).trans n3
      have sS' := sS.trans n3.ofNo
      have p6 := g6.keep sS' (by show ¬ kn = kn2; omega)
      have p7 := (g7.set0 (u := .slice (some ⟨wr.heap.size, 0, none⟩) 1 1)).keep n3 (fun h => h)
      have p10 := g10.keep sS' (by show ¬ 0 = kn2; omega)
      have p11 := g11.keep sS' (by show ¬ 0 = kn2; omega)
      have p5 := i5.keep sS' (by show ¬ ks = kn2; omega) (by show ¬ kr = kn2; omega) (by show ¬ 0 = kn2; omega)
      have pm := HJ.out.2.keep sS' (by show ¬ km = kn2; omega)
      have e10 := p10.c0
      have T1 := tries_any0 (some ⟨w.heap.size + 1 + 1, 0, none⟩) 32 #[.pointer (some ⟨w1.heap.size + 1 + 1, 0, none⟩)] ((wr.setCell ⟨w.heap.size + 1, 0, none⟩ (.slice (some ⟨wr.heap.size, 0, none⟩) 1 1)).alloc (.cells #[.int .i64 t] 3))
      have N := Lib.hid (And.intro n1 (And.intro n2 (And.intro S6 (And.intro p6 (And.intro p7 (And.intro p11 (And.intro p5 (And.intro pm p10))))))))
      clear n1 n2 n3 d6 d7 d10 at11 i4 m4 o4 S4 sj oj e11 g6 g7 g10 g11 i5 S5 sS oS sS' S6 p6 p7 p11 p5 pm p10
      go_wp2_with fail
      with_reducible refine T1.mono ?_
      rintro e W2 ⟨rfl, rfl⟩
      go_wp2_with fail
      obtain ⟨n1, n2, S6, p6, p7, p11, p5, pm, p10⟩ := N.out
      obtain ⟨c5, hc5⟩ : ∃ c5, c4.put wr.heap.size q2 = c5 := ⟨_, rfl⟩
      obtain ⟨W12, hW12⟩ : ∃ W12, (wr.setCell ⟨w.heap.size + 1, 0, none⟩ (.slice (some ⟨wr.heap.size, 0, none⟩) 1 1)).alloc (.cells #[.int .i64 t] 3) = W12 := ⟨_, rfl⟩
      have hz12 : W12.heap.size = wr.heap.size + 1 := by rw [← hW12]; simp [size_setCell]
      rw [hc5, hW12] at n1 n2 S6 p6 p7 p11 p5 pm p10
      rw [hW12] at e10 ⊢
      have q1 := At.new0 n2 [.pointer (some ⟨w.heap.size + 1 + 1, 0, none⟩)] 25
      have q2' := At.new0 (n2.alloc (.cells #[.pointer (some ⟨w.heap.size + 1 + 1, 0, none⟩)] 25)) [.func (.func 32) #[] #[.pointer (some ⟨w1.heap.size + 1 + 1, 0, none⟩)]] 66
      have sA := (Step.al (c := c5) (w := W12) (.cells #[.pointer (some ⟨w.heap.size + 1 + 1, 0, none⟩)] 25))
      have sB := (Step.al (c := c5) (w := W12.alloc (.cells #[.pointer (some ⟨w.heap.size + 1 + 1, 0, none⟩)] 25)) (.cells #[.func (.func 32) #[] #[.pointer (some ⟨w1.heap.size + 1 + 1, 0, none⟩)]] 66))
      have OW := ((n2.alloc (.cells #[.pointer (some ⟨w.heap.size + 1 + 1, 0, none⟩)] 25)).alloc (.cells #[.func (.func 32) #[] #[.pointer (some ⟨w1.heap.size + 1 + 1, 0, none⟩)]] 66))
      have q1' := q1.keep sB (fun h => h)
      have sW := sA.trans sB
      rw [World.size_alloc, hz12] at q2'
      rw [hz12] at q1'
      obtain ⟨W, hW⟩ : ∃ W, (W12.alloc (.cells #[.pointer (some ⟨w.heap.size + 1 + 1, 0, none⟩)] 25)).alloc (.cells #[.func (.func 32) #[] #[.pointer (some ⟨w1.heap.size + 1 + 1, 0, none⟩)]] 66) = W := ⟨_, rfl⟩
      rw [hW] at q1' q2' sW OW ⊢
      have r6 := p6.keep sW (fun h => h)
      have r7 := p7.keep sW (fun h => h)
      have r11 := p11.keep sW (fun h => h)
      have r5 := p5.kn sW
      have rm := pm.kn sW
      have r10 := p10.keep sW (fun h => h)
      have rn := n1.kn sW
      have SW := S6.trans sW
      obtain ⟨kl, hkl, hklc⟩ := OW.spare km
      have hkl0 : ∀ b, c b ≠ kl := fun b e => by
        by_cases hb : b < w.heap.size
        · exact hklc b ((SW.col b hb (fun h => h)).trans e)
        · have := hok.fresh b (by omega); omega
      clear hc5 hW12 hW n1 n2 S6 p6 p7 p11 p5 pm p10 N sA sB q1 sW T1 e10 l7 x7 y7 l10 x10
      have nK0 : ¬ And1 (K6 kn kn2 q q2 ks kr) kl 0 := by unfold And1 K6; omega
      have nKm : ¬ And1 (K6 kn kn2 q q2 ks kr) kl km := by unfold And1 K6; omega
      refine wp_cap (fun F hF => ?_)
      refine wp_rangeS (a := F) OW (by rw [hF]; rfl) (enters_of Try.func35 (by kernel_rfl) rfl) (K := K6 kn kn2 q q2 ks kr) kl hklc (by omega) (by unfold K6; omega) (by show ¬ kl = ks; omega)
        (tries_iter q1'.c0 q2'.c0 r11.c0 rm (by rw [q1'.col]; exact nK0) (by rw [q2'.col]; exact nK0) (by rw [r11.col]; exact nK0) nKm (.inl (show K6 kn kn2 q q2 ks kr ks from .inr (.inr (.inr (.inr (.inl rfl)))))) (by omega) (by omega) (show kr ≠ ks by omega)) ?_
        (fun s c' W' => ∃ pre asked va vb, planI hs r t pre asked s ∧ PW kn kn2 q q2 ks kr w.heap.size (w.heap.size + 1) w1.heap.size (w.heap.size + 1 + 1) c' W' va vb pre (t :: asked) s)
        (fun s c' W' => ∃ pre asked va vb, planI hs r t pre asked s ∧ PW kn kn2 q q2 ks kr w.heap.size (w.heap.size + 1) w1.heap.size (w.heap.size + 1 + 1) c' W' va vb pre (t :: asked) (if (tri hs s).held = true then popS s else s))
        (fun cd c' W' => cd = .exit 3 ∧ ∃ pre asked va vb s, plan hs (newS r t) = (pre, asked, false) ∧ s.l ≠ [] ∧ 1 ≤ s.root ∧ PW kn kn2 q q2 ks kr w.heap.size (w.heap.size + 1) w1.heap.size (w.heap.size + 1 + 1) c' W' va vb pre (t :: asked) s)
        (fun s a1 c' W' => ∃ Be pre asked va vb, a1 = { tmps := (F.tmps.setIfInBounds 48 (.agg (triC (tri hs s)).toArray)).setIfInBounds 14 (.pointer (some ⟨Be, 0, none⟩)), defers := [] } ∧ At c' W' Be 0 (triC (tri hs s)) ∧ s.l ≠ [] ∧ planI hs r t pre asked s ∧ PW kn kn2 q q2 ks kr w.heap.size (w.heap.size + 1) w1.heap.size (w.heap.size + 1 + 1) c' W' va vb pre (t :: asked) (if (tri hs s).held = true then popS s else s))
        (newS r t) ?_ ?_ ?_ ?_ ?_ ?_ ?assign ?body ?done ?stop
      · rintro s c1 W1 _ rfl; rfl
      · rintro s c1 W1 c2 W2 ⟨pre, asked, va, vb, h1, h2⟩ hs' _
        exact ⟨pre, asked, va, vb, h1, h2.keep hs' (by show ¬ kn = kl; omega) (by show ¬ kn2 = kl; omega) (by show ¬ q = kl; omega) (by show ¬ q2 = kl; omega) (by show ¬ ks = kl; omega) (by show ¬ kr = kl; omega) (by show ¬ 0 = kl; omega)⟩
      · rintro cd c1 W1 c2 W2 ⟨hcd, pre, asked, va, vb, s, h1, h1b, h1c, h2⟩ hs' _
        exact ⟨hcd, pre, asked, va, vb, s, h1, h1b, h1c, h2.keep hs' (by show ¬ kn = kl; omega) (by show ¬ kn2 = kl; omega) (by show ¬ q = kl; omega) (by show ¬ q2 = kl; omega) (by show ¬ ks = kl; omega) (by show ¬ kr = kl; omega) (by show ¬ 0 = kl; omega)⟩
      · rintro s a1 c1 W1 c2 W2 ⟨Be, pre, asked, va, vb, h0, h0b, h0c, h1, h2⟩ hs' _
        exact ⟨Be, pre, asked, va, vb, h0, h0b.keep hs' (by show ¬ 0 = kl; omega), h0c, h1, h2.keep hs' (by show ¬ kn = kl; omega) (by show ¬ kn2 = kl; omega) (by show ¬ q = kl; omega) (by show ¬ q2 = kl; omega) (by show ¬ ks = kl; omega) (by show ¬ kr = kl; omega) (by show ¬ 0 = kl; omega)⟩
      · rintro s c1 W1 ⟨pre, asked, va, vb, h1, h2⟩
        exact ⟨h1.fine, h1.len, h2.st⟩
      · rintro s c1 W1 c2 W2 ⟨pre, asked, va, vb, h1, h2⟩ _ hs' _ hy
        exact ⟨pre, asked, va, vb, h1, hy, h2.a6.keep hs' (by show ¬ kn = ks; omega), h2.o6.keep hs' (by show ¬ q = ks; omega) (by show ¬ 0 = ks; omega), h2.a7.keep hs' (by show ¬ kn2 = ks; omega), h2.o7.keep hs' (by show ¬ q2 = ks; omega) (by show ¬ 0 = ks; omega), h2.a10.keep hs' (by show ¬ 0 = ks; omega)⟩
      · exact ⟨[], [], _, _, planI.start f0 hf, r5, r6, Own.nil _ _ _ _ _ _, r7, rn, r10⟩
      case assign =>
        rintro lp s c1 W1 _ hfin ⟨pre, asked, va, vb, h1, h2⟩ ho hst rfl KK hK
        subst hF
        have P1 := At.new0 ho (triC (tri hs s)) 41
        have P2 := ho.alloc (.cells (triC (tri hs s)).toArray 41)
        have P3 := Step.al (c := c1) (w := W1) (.cells (triC (tri hs s)).toArray 41)
        have fin := hK { tmps := _, defers := [] } c1 _ P2 P3.ofNo ⟨W1.heap.size, pre, asked, va, vb, rfl, P1, hfin, h1, h2.kn' P3⟩
        clear hK P1 P2 P3 h1 h2
        obtain ⟨x0, x1, x2, hx⟩ : ∃ x0 x1 x2, triC (tri hs s) = [.int .i64 x0, .int .i64 x1, .bool x2] := ⟨_, _, _, rfl⟩
        rw [hx] at fin ⊢
        simp only [List.setIfInBounds_toArray, List.set_cons_zero, List.set_cons_succ] at fin ⊢
        gi_wp2
        exact fin
      case body =>
        rintro lp s a1 c2 W2 ⟨Be, pre, asked, va, vb, rfl, hBe, hsl, h1, h2, h3, h4, h5, h6, h10⟩ ho
        subst hF
        obtain ⟨oa, oc, rfl, _⟩ := h4.sl.form
        obtain ⟨aa, ac, haa, _⟩ := h6.sl.form
        rw [List.length_cons] at haa
        subst haa
        obtain ⟨hd, hhd⟩ : ∃ hd, (tri hs s).held = hd := ⟨_, rfl⟩
        have hx : triC (tri hs s) = [.int .i64 s.low, .int .i64 (topL s.l), .bool hd] := by rw [← hhd]; rfl
        obtain ⟨x1, x2, x3⟩ := put_one (T := TTri) (x := tri hs s) (vs := triC (tri hs s)) (k2 := 0) ho rfl 41
        have h4' := h4.kn x3
        have hpl : pre.length ≤ 10000 := by have := h1.mu; omega
        have hal : asked.length ≤ 10000 := by have := h1.al; omega
        rw [hx] at hBe x1 x2 x3
        have e0 := hBe.get 0 rfl
        have e1 := hBe.get 1 rfl
        have e2 := hBe.get 2 rfl
        have e3 := h3.c0
        have hq0 : 0 ≠ q := by omega
        have hm1 : pre.length + [tri hs s].length ≤ maxLen := by simp [maxLen]; omega
        have hm2 : (pre.length + [tri hs s].length) * 24 ≤ 140737488355328 := by simp; omega
        have h4'' : Own TTri 41 c2 q 0 (W2.alloc (.cells #[.int .i64 s.low, .int .i64 (topL s.l), .bool hd] 41)) (.slice oa pre.length oc) pre := h4.kn x3
        simp only [List.setIfInBounds_toArray, List.set_cons_zero, List.set_cons_succ]
        have X := Lib.hid (And.intro h1 (And.intro h2 (And.intro h3 (And.intro h5 (And.intro h6 (And.intro hhd (And.intro hsl h10)))))))
        clear h4 h4' h1 h2 h5 h6 hhd hsl h10
        refine wpIn_block ?_
        refine wpIn_seq_k (fun KA hKA => ?_)
        refine region_roundL (by kernel_rfl) (fun ⟨_, _, h⟩ => h) ?_
        go_wp2_with (at_builtin; refine wpList_app TTri x1 rfl _ _ 37 rfl 41 Try.underlying37 infoTry rfl (by decide) rfl rfl h4'' x2 hq0 hm1 hm2 ?_; rintro v' w' c' b1 b2 b3 -; obtain ⟨va', vc', rfl, _⟩ := b1.sl.form; rw [show (pre ++ [tri hs s]).length = pre.length + 1 by simp] at b1; have g3 := (h3.keep x3 (fun h => h)).keep b2 (by show ¬ kn = q; omega); have y0 := g3.c0; have yf := g3.fz b3 (by omega) 0)
        obtain ⟨h1, h2, _, h5, h6, hhd, hsl, h10⟩ := X.out
        have z1 : kn ≠ 0 := by omega
        have sT : Step (Two kn q) c2 W2 c' (w'.setCell ⟨w.heap.size, 0, none⟩ (.slice va' (pre.length + 1) vc')) := (x3.ofNo.trans (b2.mono fun _ h => .inr h)).setCell (a := ⟨w.heap.size, 0, none⟩) (.inr (.inl h3.col)) _
        have sO := b3.setCell ⟨w.heap.size, 0, none⟩ (.slice va' (pre.length + 1) vc')
        have t3 := g3.set0 (u := .slice va' (pre.length + 1) vc')
        have t4 := b1.set (a := ⟨w.heap.size, 0, none⟩) (by show c' w.heap.size ≠ q; rw [g3.col]; omega) (by show c' w.heap.size ≠ 0; rw [g3.col]; omega) (.slice va' (pre.length + 1) vc')
        have tBe := hBe.keep sT (by rintro (h | h) <;> omega)
        have t2 := h2.keep sT (by rintro (h | h) <;> omega) (by rintro (h | h) <;> omega) (by rintro (h | h) <;> omega)
        have t5 := h5.keep sT (by rintro (h | h) <;> omega)
        have t6 := h6.keep sT (by rintro (h | h) <;> omega) (by rintro (h | h) <;> omega)
        have t10 := h10.keep sT (by rintro (h | h) <;> omega)
        have sTK : Step (K6 kn kn2 q q2 ks kr) c2 W2 c' (w'.setCell ⟨w.heap.size, 0, none⟩ (.slice va' (pre.length + 1) vc')) := sT.mono fun j h => by rcases h with h | h <;> (subst h; simp [K6])
        obtain ⟨W3, hW3⟩ : ∃ W3, w'.setCell ⟨w.heap.size, 0, none⟩ (.slice va' (pre.length + 1) vc') = W3 := ⟨_, rfl⟩
        rw [hW3] at sO t3 t4 tBe t2 t5 t6 t10 sTK ⊢
        clear hW3 sT h3 g3 b1 b2 b3 hBe e0 e1 e2 e3 y0 yf x1 x2 x3 h4'' X h2 h5 h6 h10
        have e2 := tBe.get 2 rfl
        cases hd with
        | true =>
          rw [hhd, if_pos rfl] at t2
          gi_wp2
          exact ⟨c', sO, sTK, popS s, muS_pop h1.fine hsl, _, _, _, _, h1.pop hsl hhd, t2, t3, t4, t5, t6, t10⟩
        | false =>
          rw [hhd, if_neg (by decide)] at t2
          have C1 := split_any sO t2 h1.fine.good (by omega) (by omega) (by omega) h1.len
          have e10 := t10.c0
          have X := Lib.hid (And.intro sO (And.intro t3 (And.intro t4 (And.intro t5 (And.intro t6 (And.intro sTK (And.intro h1 (And.intro hsl (And.intro hhd t10)))))))))
          clear sO t3 t4 t5 t6 sTK h1 hsl hhd t2 t10
          by_cases hse : splitE s = 0
          · have HS := Lib.hid hse
            rw [hse] at C1
            clear hse
            gi_wp2
            refine ⟨trivial, rfl, CallsIn.inRound lp ((callsIn_wide (n := 0)).2 (C1.mono ?_))⟩
            rintro e W4 ⟨rfl, c4', i4, s4, o4⟩
            clear C1 e2 e10
            gi_upto_region 19 with (fail)
            obtain ⟨sO, t3, t4, t5, t6, sTK, h1, hsl, hhd, t10⟩ := X.out
            refine region_roundL (by kernel_rfl) (fun ⟨_, _, h⟩ => h) ?_
            have two : ∀ {j : Nat}, j ≠ ks → j ≠ kr → ¬ Two ks kr j := fun h1 h2 h => by rcases h with h | h; exact h1 h; exact h2 h
            have u3 := t3.keep s4 (two (by omega) (by omega))
            have u4 := t4.keep s4 (two (by omega) (by omega)) (two (by omega) (by omega))
            have u5 := t5.keep s4 (two (by omega) (by omega))
            have u6 := t6.keep s4 (two (by omega) (by omega)) (two (by omega) (by omega))
            have u10 := t10.keep s4 (two (by omega) (by omega))
            have sTK4 := sTK.trans (s4.mono (K' := K6 kn kn2 q q2 ks kr) fun j h => by rcases h with h | h <;> (subst h; simp [K6]))
            obtain ⟨x1, x2, x3⟩ := put_one (T := TInt .i64) (x := splitH s) (vs := [.int .i64 (splitH s)]) (k2 := 0) o4 ⟨rfl, (splitH_has h1.fine.good HS.out)⟩ 3
            have u6' := u6.kn x3
            have hq20 : 0 ≠ q2 := by omega
            have hn1 : (t :: asked).length + [splitH s].length ≤ maxLen := by simp [maxLen]; omega
            have hn2 : ((t :: asked).length + [splitH s].length) * 8 ≤ 140737488355328 := by simp; omega
            have e7 := u5.c0
            have Y := Lib.hid (And.intro u3 (And.intro u4 (And.intro i4 (And.intro u10 (And.intro sTK4 (And.intro hsl (And.intro hhd h1)))))))
            clear t3 t4 t5 t6 t10 sTK sO u3 u4 u6 i4 u10 sTK4 hsl hhd h1 X
            go_wp2_with (at_builtin; refine wpList_app (TInt .i64) x1 rfl _ _ 22 rfl 3 Try.underlying22 infoInt rfl (by decide) rfl rfl u6' x2 hq20 hn1 hn2 ?_; rintro v5 w5 c5' b1 b2 b3 -; obtain ⟨va5, vc5, rfl, _⟩ := b1.sl.form; rw [show (t :: asked ++ [splitH s]).length = asked.length + 1 + 1 by simp] at b1; have g5 := (u5.keep x3 (fun h => h)).keep b2 (by show ¬ kn2 = q2; omega); have y0 := g5.c0; have yf := g5.fz b3 (by omega) 0)
            obtain ⟨u3, u4, i4, u10, sTK4, hsl, hhd, h1⟩ := Y.out
            have z2 : kn2 ≠ 0 := by omega
            have sQ : Step (Two kn2 q2) c4' W4 c5' (w5.setCell ⟨w.heap.size + 1, 0, none⟩ (.slice va5 (asked.length + 1 + 1) vc5)) := (x3.ofNo.trans (b2.mono fun _ h => .inr h)).setCell (a := ⟨w.heap.size + 1, 0, none⟩) (.inr (.inl u5.col)) _
            have two2 : ∀ {j : Nat}, j ≠ kn2 → j ≠ q2 → ¬ Two kn2 q2 j := fun h1 h2 h => by rcases h with h | h; exact h1 h; exact h2 h
            have sQK := sTK4.trans (sQ.mono (K' := K6 kn kn2 q q2 ks kr) fun j h => by rcases h with h | h <;> (subst h; simp [K6]))
            have v7 := b1.set (a := ⟨w.heap.size + 1, 0, none⟩) (by show c5' (w.heap.size + 1) ≠ q2; rw [g5.col]; omega) (by show c5' (w.heap.size + 1) ≠ 0; rw [g5.col]; omega) (.slice va5 (asked.length + 1 + 1) vc5)
            exact ⟨c5', b3.setCell _ _, sQK, splitS s, muS_split h1.fine HS.out, _, _, _, _, h1.split hhd HS.out, i4.keep sQ (two2 (by omega) (by omega)) (two2 (by omega) (by omega)) (two2 (by omega) (by omega)), u3.keep sQ (two2 (by omega) (by omega)), u4.keep sQ (two2 (by omega) (by omega)) (two2 (by omega) (by omega)), g5.set0, v7, u10.keep sQ (two2 (by omega) (by omega))⟩
          · have HS := Lib.hid hse
            have hse' : (splitE s == 0) = false := by simpa using hse
            clear hse
            gi_wp2
            refine ⟨trivial, rfl, CallsIn.inRound lp ((callsIn_wide (n := 0)).2 (C1.mono ?_))⟩
            rintro e W4 ⟨rfl, c4', i4, s4, o4⟩
            clear C1 e2 e10
            gi_wp2
            obtain ⟨sO, t3, t4, t5, t6, sTK, h1, hsl, hhd, t10⟩ := X.out
            have two : ∀ {j : Nat}, j ≠ ks → j ≠ kr → ¬ Two ks kr j := fun h1 h2 h => by rcases h with h | h; exact h1 h; exact h2 h
            rw [splitS_ne HS.out] at i4
            exact ⟨c4', o4, sTK.trans (s4.mono (K' := K6 kn kn2 q q2 ks kr) fun j h => by rcases h with h | h <;> (subst h; simp [K6])), rfl, _, _, _, _, s, h1.broken hsl hhd HS.out, hsl, h1.fine.good.root.1, i4, t3.keep s4 (two (by omega) (by omega)), t4.keep s4 (two (by omega) (by omega)) (two (by omega) (by omega)), t5.keep s4 (two (by omega) (by omega)), t6.keep s4 (two (by omega) (by omega)) (two (by omega) (by omega)), t10.keep s4 (two (by omega) (by omega))⟩
      case done =>
        rintro D s c' W' hfin ⟨pre, asked, va, vb, h1, h2⟩ ho hs' hD hDs hDc
        subst hF
        obtain ⟨oa, oc, rfl, _⟩ := h2.o6.sl.form
        obtain ⟨aa, ac, haa, _⟩ := h2.o7.sl.form
        rw [List.length_cons] at haa
        subst haa
        have HP := Lib.hid (h1.done hfin)
        have S1 : ∀ {c2 W2}, Step No c' W' c2 W2 → (fun W => W.cell? ⟨w.heap.size, 0, none⟩ = some (.slice oa pre.length oc) ∧ W.cell? ⟨w.heap.size + 1, 0, none⟩ = some (.slice aa (asked.length + 1) ac) ∧ W.cell? ⟨w1.heap.size, 0, none⟩ = some (.pointer (some ⟨w.heap.size + 1 + 1, 0, none⟩)) ∧ W.frozen? ⟨w.heap.size, 0, none⟩ = false ∧ W.frozen? ⟨w.heap.size + 1, 0, none⟩ = false) W2 := fun st =>
          ⟨(h2.a6.keep st (fun h => h)).c0, (h2.a7.keep st (fun h => h)).c0, (h2.a10.keep st (fun h => h)).c0, (st.frozen h2.a6.lt (fun h => h)).trans (h2.a6.fz ho (by omega) 0), (st.frozen h2.a7.lt (fun h => h)).trans (h2.a7.fz ho (by omega) 0)⟩
        have ne : ∀ {a b : Nat}, a ≠ b → (⟨a, 0, none⟩ : Addr) ≠ ⟨b, 0, none⟩ := fun h e => by injection e with e1 e2; exact h e1
        have S2 : ∀ W2 : World, (fun W => W.cell? ⟨w.heap.size, 0, none⟩ = some (.slice oa pre.length oc) ∧ W.cell? ⟨w.heap.size + 1, 0, none⟩ = some (.slice aa (asked.length + 1) ac) ∧ W.cell? ⟨w1.heap.size, 0, none⟩ = some (.pointer (some ⟨w.heap.size + 1 + 1, 0, none⟩)) ∧ W.frozen? ⟨w.heap.size, 0, none⟩ = false ∧ W.frozen? ⟨w.heap.size + 1, 0, none⟩ = false) W2 → (fun W => W.cell? ⟨w.heap.size, 0, none⟩ = some (.slice oa pre.length oc) ∧ W.cell? ⟨w.heap.size + 1, 0, none⟩ = some (.slice aa (asked.length + 1) ac) ∧ W.cell? ⟨w1.heap.size, 0, none⟩ = some (.pointer (some ⟨w.heap.size + 1 + 1, 0, none⟩)) ∧ W.frozen? ⟨w.heap.size, 0, none⟩ = false ∧ W.frozen? ⟨w.heap.size + 1, 0, none⟩ = false) (W2.setCell ⟨w.heap.size, 0, none⟩ (.slice oa pre.length oc)) := fun W2 ⟨k1, k2, k3, k4, k5⟩ =>
          ⟨World.cell?_setCell_same' _ _ _ (by rw [k1]; rfl), (World.cell?_setCell_other _ _ _ _ (ne (by omega))).trans k2, (World.cell?_setCell_other _ _ _ _ (ne (by omega))).trans k3, by rw [frozen?_setCell']; exact k4, by rw [frozen?_setCell']; exact k5⟩
        have S3 : ∀ W2 : World, (fun W => W.cell? ⟨w.heap.size, 0, none⟩ = some (.slice oa pre.length oc) ∧ W.cell? ⟨w.heap.size + 1, 0, none⟩ = some (.slice aa (asked.length + 1) ac) ∧ W.cell? ⟨w1.heap.size, 0, none⟩ = some (.pointer (some ⟨w.heap.size + 1 + 1, 0, none⟩)) ∧ W.frozen? ⟨w.heap.size, 0, none⟩ = false ∧ W.frozen? ⟨w.heap.size + 1, 0, none⟩ = false) W2 → (fun W => W.cell? ⟨w.heap.size, 0, none⟩ = some (.slice oa pre.length oc) ∧ W.cell? ⟨w.heap.size + 1, 0, none⟩ = some (.slice aa (asked.length + 1) ac) ∧ W.cell? ⟨w1.heap.size, 0, none⟩ = some (.pointer (some ⟨w.heap.size + 1 + 1, 0, none⟩)) ∧ W.frozen? ⟨w.heap.size, 0, none⟩ = false ∧ W.frozen? ⟨w.heap.size + 1, 0, none⟩ = false) (W2.setCell ⟨w.heap.size + 1, 0, none⟩ (.slice aa (asked.length + 1) ac)) := fun W2 ⟨k1, k2, k3, k4, k5⟩ =>
          ⟨(World.cell?_setCell_other _ _ _ _ (ne (by omega))).trans k1, World.cell?_setCell_same' _ _ _ (by rw [k2]; rfl), (World.cell?_setCell_other _ _ _ _ (ne (by omega))).trans k3, by rw [frozen?_setCell']; exact k4, by rw [frozen?_setCell']; exact k5⟩
        have DC := fun n => done_yes (h2.st.kn (Step.rf.drewN n)) h1.fine.good.root.1 hfin
        have X := Lib.hid (And.intro h2 (And.intro ho (And.intro hs' (And.intro hD hDc))))
        clear h2 ho hs' hD hDc
        go_wp2_with fail
        have K1 := S1 (Step.rf (c := c') (w := W')).drew
        obtain ⟨k1, k2, k3, k4, k5⟩ := S1 (Step.rf (c := c') (w := W'))
        refine wp_region_noPanic ?_
        refine region_planM (fun W => W.cell? ⟨w.heap.size, 0, none⟩ = some (.slice oa pre.length oc) ∧ W.cell? ⟨w.heap.size + 1, 0, none⟩ = some (.slice aa (asked.length + 1) ac) ∧ W.cell? ⟨w1.heap.size, 0, none⟩ = some (.pointer (some ⟨w.heap.size + 1 + 1, 0, none⟩)) ∧ W.frozen? ⟨w.heap.size, 0, none⟩ = false ∧ W.frozen? ⟨w.heap.size + 1, 0, none⟩ = false) (fun _ => true) (by kernel_rfl) ?_
        refine wpAnyM.takeT (i := 0) (v := _) (some 66) rfl rfl (by kernel_rfl) (by kernel_rfl) (by kernel_rfl) (by kernel_rfl) (by kernel_rfl) (fun _ _ _ h => h) (Or.inl ⟨by rfl, fun W hW => by first | (obtain ⟨q0, q1, q2, q3, q4⟩ := hW; go_simp <;> rfl) | (obtain ⟨q0, q1, q2, q3, q4⟩ := hW; go_simp; done)⟩) K1 ?_
        (try simp only [Act.put, List.setIfInBounds_toArray, List.set_cons_zero, List.set_cons_succ])
        refine wpAnyM.takeT (i := 1) (v := _) (some 67) rfl rfl (by kernel_rfl) (by kernel_rfl) (by kernel_rfl) (by kernel_rfl) (by kernel_rfl) (fun _ _ _ h => h) (Or.inl ⟨by rfl, fun W hW => by first | (obtain ⟨q0, q1, q2, q3, q4⟩ := hW; go_simp <;> rfl) | (obtain ⟨q0, q1, q2, q3, q4⟩ := hW; go_simp; done)⟩) K1 ?_
        (try simp only [Act.put, List.setIfInBounds_toArray, List.set_cons_zero, List.set_cons_succ])
        refine wpAnyM.takeT (i := 2) (v := _) (some 68) rfl rfl (by kernel_rfl) (by kernel_rfl) (by kernel_rfl) (by kernel_rfl) (by kernel_rfl) (fun _ _ _ h => h) (Or.inl ⟨by rfl, fun W hW => by first | (obtain ⟨q0, q1, q2, q3, q4⟩ := hW; go_simp <;> rfl) | (obtain ⟨q0, q1, q2, q3, q4⟩ := hW; go_simp; done)⟩) K1 ?_
        (try simp only [Act.put, List.setIfInBounds_toArray, List.set_cons_zero, List.set_cons_succ])
        refine wpAnyM.one (i := 3) (by kernel_rfl) rfl (fun KQ hK => ?_)
        go_simp
        refine (DC 1).mono ?_
        rintro e W3 ⟨rfl, rfl⟩
        refine hK.out _ _ (fun _ => K1) ?_
        clear hK KQ
        (try simp only [Act.put, List.setIfInBounds_toArray, List.set_cons_zero, List.set_cons_succ])
        refine wpAnyM.one (i := 4) (by kernel_rfl) rfl (fun KQ hK => ?_)
        go_simp
        have K2 := S2 _ K1
        refine hK.out _ _ (fun _ => K2) ?_
        clear hK KQ
        (try simp only [Act.put, List.setIfInBounds_toArray, List.set_cons_zero, List.set_cons_succ])
        refine wpAnyM.one (i := 5) (by kernel_rfl) rfl (fun KQ hK => ?_)
        go_simp
        have K3 := S3 _ K2
        refine hK.out _ _ (fun _ => K3) ?_
        clear hK KQ
        (try simp only [Act.put, List.setIfInBounds_toArray, List.set_cons_zero, List.set_cons_succ])
        refine wpAnyM.one (i := 6) (by kernel_rfl) rfl (fun KQ hK => ?_)
        go_simp
        refine hK.out _ _ (fun _ => K3) ?_
        clear hK KQ
        (try simp only [Act.put, List.setIfInBounds_toArray, List.set_cons_zero, List.set_cons_succ])
        refine wpAnyM.one (i := 7) (by kernel_rfl) rfl (fun KQ hK => ?_)
        go_simp
        refine hK.out _ _ (fun _ => K3) ?_
        clear hK KQ
        (try simp only [Act.put, List.setIfInBounds_toArray, List.set_cons_zero, List.set_cons_succ])
        refine wpAnyM.done (by kernel_rfl) (noPanic_normal ?_) _
        obtain ⟨h2, ho, hs', hD, hDc⟩ := X.out
        go_wp2_with fail
        obtain ⟨m1, m2, _, _, _⟩ := K3
        have hDl : D < W'.heap.size := (Array.getElem?_eq_some_iff.1 hD).1
        have sQ : Step (Two kn kn2) c' W' c' (((W'.drewN 1).setCell ⟨w.heap.size, 0, none⟩ (.slice oa pre.length oc)).setCell ⟨w.heap.size + 1, 0, none⟩ (.slice aa (asked.length + 1) ac)) :=
          ((Step.refl.drewN 1).setCell (a := ⟨w.heap.size, 0, none⟩) (.inr (.inl h2.a6.col)) _).setCell (a := ⟨w.heap.size + 1, 0, none⟩) (.inr (.inr h2.a7.col)) _
        have q6 := (sQ.block D hDl (by rw [hDc]; rintro (h | h) <;> omega)).trans hD
        have dO := ((ho.drewN 1).setCell ⟨w.heap.size, 0, none⟩ (.slice oa pre.length oc)).setCell ⟨w.heap.size + 1, 0, none⟩ (.slice aa (asked.length + 1) ac)
        have l6 := Nat.lt_of_lt_of_le h2.a6.lt sQ.size
        have l7' := Nat.lt_of_lt_of_le h2.a7.lt sQ.size
        have d6 : w.heap.size ≠ D := fun e => by have := h2.a6.col; rw [e, hDc] at this; omega
        have d7 : w.heap.size + 1 ≠ D := fun e => by have := h2.a7.col; rw [e, hDc] at this; omega
        obtain ⟨W5, hW5⟩ : ∃ W5, ((W'.drewN 1).setCell ⟨w.heap.size, 0, none⟩ (.slice oa pre.length oc)).setCell ⟨w.heap.size + 1, 0, none⟩ (.slice aa (asked.length + 1) ac) = W5 := ⟨_, rfl⟩
        have m1' : W5.cell? ⟨w.heap.size, 0, none⟩ = some (.slice oa pre.length oc) := hW5 ▸ m1
        have m2' : W5.cell? ⟨w.heap.size + 1, 0, none⟩ = some (.slice aa (asked.length + 1) ac) := hW5 ▸ m2
        rw [hW5] at sQ q6 dO ⊢
        clear hW5 m1 m2
        have n1 : (W5.putObj D (.deferred none)).cell? ⟨w.heap.size, 0, none⟩ = some (.slice oa pre.length oc) := (World.cell?_of_block (w := W5) (World.putObj_heap_other d6)).trans m1'
        have n2 : (W5.putObj D (.deferred none)).cell? ⟨w.heap.size + 1, 0, none⟩ = some (.slice aa (asked.length + 1) ac) := (World.cell?_of_block (w := W5) (World.putObj_heap_other d7)).trans m2'
        have sR : Step (fun j => j = kn ∨ j = kn2 ∨ j = kl) c' W' c' (W5.putObj D (.deferred none)) := (sQ.mono fun j h => by rcases h with h | h; exact .inl h; exact .inr (.inl h)).putObj (.inr (.inr (.inr hDc))) _
        have O6 : Ok c' (W5.putObj D (.deferred none)) := dO.putObj _ (fun a ha => frozen_def a ha)
        have o6 := h2.o6.keep sR (by show ¬ (q = kn ∨ q = kn2 ∨ q = kl); omega) (by show ¬ (0 = kn ∨ 0 = kn2 ∨ 0 = kl); omega)
        have o7 := h2.o7.keep sR (by show ¬ (q2 = kn ∨ q2 = kn2 ∨ q2 = kl); omega) (by show ¬ (0 = kn ∨ 0 = kn2 ∨ 0 = kl); omega)
        have T : Step (And1 (K6 kn kn2 q q2 ks kr) kl) c w c' (W5.putObj D (.deferred none)) := (SW.ofNo.trans hs').trans (sR.mono fun j h => by rcases h with h | h | h; exact .inl (.inl h); exact .inl (.inr (.inl h)); exact .inr h)
        refine leaveM q6 rfl (v := .tuple #[.slice oa pre.length oc, .slice aa (asked.length + 1) ac, .bool true, .int .i64 0]) (by simp [results, Try.results14, go_sem, n1, n2]) ⟨_, _, by rw [HP.out], (c'.turn q ka).turn q2 kb, ?_, ?_, ?_, (O6.turn (by omega)).turn (by omega)⟩
        · rw [HP.out]
          exact ((o6.turn (k := ka) (by omega)).keep ((Step.refl (K := One q2)).turn rfl) (by show ¬ ka = q2; omega) (by show ¬ 0 = q2; omega)).sl
        · rw [HP.out]
          exact ((o7.keep ((Step.refl (K := One q)).turn (q := q) (k := ka) rfl) (by show ¬ q2 = q; omega) (by show ¬ 0 = q; omega)).turn (k := kb) (by omega)).sl
        · refine ((T.turn (q := q) (k := ka) (.inl (.inr (.inr (.inl rfl))))).turn (q := q2) (k := kb) (.inl (.inr (.inr (.inr (.inl rfl)))))).drop fun b _ h => ?_
          rcases h with (h | h | h | h | h | h) | h
          · exact hknc b h
          · exact hkn2c b h
          · exact hqc b h
          · exact hqc2 b h
          · exact hksc b h
          · exact hkrc b h
          · exact hkl0 b h
      case stop =>
        rintro D j c' W' ⟨rfl, pre, asked, va, vb, s, h1, h1b, h1c, h2⟩ ho hs' hD hDs hDc
        subst hF
        obtain ⟨oa, oc, rfl, _⟩ := h2.o6.sl.form
        obtain ⟨aa, ac, haa, _⟩ := h2.o7.sl.form
        rw [List.length_cons] at haa
        subst haa
        have HP := Lib.hid (h1)
        have S1 : ∀ {c2 W2}, Step No c' W' c2 W2 → (fun W => W.cell? ⟨w.heap.size, 0, none⟩ = some (.slice oa pre.length oc) ∧ W.cell? ⟨w.heap.size + 1, 0, none⟩ = some (.slice aa (asked.length + 1) ac) ∧ W.cell? ⟨w1.heap.size, 0, none⟩ = some (.pointer (some ⟨w.heap.size + 1 + 1, 0, none⟩)) ∧ W.frozen? ⟨w.heap.size, 0, none⟩ = false ∧ W.frozen? ⟨w.heap.size + 1, 0, none⟩ = false) W2 := fun st =>
          ⟨(h2.a6.keep st (fun h => h)).c0, (h2.a7.keep st (fun h => h)).c0, (h2.a10.keep st (fun h => h)).c0, (st.frozen h2.a6.lt (fun h => h)).trans (h2.a6.fz ho (by omega) 0), (st.frozen h2.a7.lt (fun h => h)).trans (h2.a7.fz ho (by omega) 0)⟩
        have ne : ∀ {a b : Nat}, a ≠ b → (⟨a, 0, none⟩ : Addr) ≠ ⟨b, 0, none⟩ := fun h e => by injection e with e1 e2; exact h e1
        have S2 : ∀ W2 : World, (fun W => W.cell? ⟨w.heap.size, 0, none⟩ = some (.slice oa pre.length oc) ∧ W.cell? ⟨w.heap.size + 1, 0, none⟩ = some (.slice aa (asked.length + 1) ac) ∧ W.cell? ⟨w1.heap.size, 0, none⟩ = some (.pointer (some ⟨w.heap.size + 1 + 1, 0, none⟩)) ∧ W.frozen? ⟨w.heap.size, 0, none⟩ = false ∧ W.frozen? ⟨w.heap.size + 1, 0, none⟩ = false) W2 → (fun W => W.cell? ⟨w.heap.size, 0, none⟩ = some (.slice oa pre.length oc) ∧ W.cell? ⟨w.heap.size + 1, 0, none⟩ = some (.slice aa (asked.length + 1) ac) ∧ W.cell? ⟨w1.heap.size, 0, none⟩ = some (.pointer (some ⟨w.heap.size + 1 + 1, 0, none⟩)) ∧ W.frozen? ⟨w.heap.size, 0, none⟩ = false ∧ W.frozen? ⟨w.heap.size + 1, 0, none⟩ = false) (W2.setCell ⟨w.heap.size, 0, none⟩ (.slice oa pre.length oc)) := fun W2 ⟨k1, k2, k3, k4, k5⟩ =>
          ⟨World.cell?_setCell_same' _ _ _ (by rw [k1]; rfl), (World.cell?_setCell_other _ _ _ _ (ne (by omega))).trans k2, (World.cell?_setCell_other _ _ _ _ (ne (by omega))).trans k3, by rw [frozen?_setCell']; exact k4, by rw [frozen?_setCell']; exact k5⟩
        have S3 : ∀ W2 : World, (fun W => W.cell? ⟨w.heap.size, 0, none⟩ = some (.slice oa pre.length oc) ∧ W.cell? ⟨w.heap.size + 1, 0, none⟩ = some (.slice aa (asked.length + 1) ac) ∧ W.cell? ⟨w1.heap.size, 0, none⟩ = some (.pointer (some ⟨w.heap.size + 1 + 1, 0, none⟩)) ∧ W.frozen? ⟨w.heap.size, 0, none⟩ = false ∧ W.frozen? ⟨w.heap.size + 1, 0, none⟩ = false) W2 → (fun W => W.cell? ⟨w.heap.size, 0, none⟩ = some (.slice oa pre.length oc) ∧ W.cell? ⟨w.heap.size + 1, 0, none⟩ = some (.slice aa (asked.length + 1) ac) ∧ W.cell? ⟨w1.heap.size, 0, none⟩ = some (.pointer (some ⟨w.heap.size + 1 + 1, 0, none⟩)) ∧ W.frozen? ⟨w.heap.size, 0, none⟩ = false ∧ W.frozen? ⟨w.heap.size + 1, 0, none⟩ = false) (W2.setCell ⟨w.heap.size + 1, 0, none⟩ (.slice aa (asked.length + 1) ac)) := fun W2 ⟨k1, k2, k3, k4, k5⟩ =>
          ⟨(World.cell?_setCell_other _ _ _ _ (ne (by omega))).trans k1, World.cell?_setCell_same' _ _ _ (by rw [k2]; rfl), (World.cell?_setCell_other _ _ _ _ (ne (by omega))).trans k3, by rw [frozen?_setCell']; exact k4, by rw [frozen?_setCell']; exact k5⟩
        have DC := fun n => done_no (h2.st.kn (Step.rf.drewN n)) h1c h1b
        have X := Lib.hid (And.intro h2 (And.intro ho (And.intro hs' (And.intro hD hDc))))
        clear h2 ho hs' hD hDc
        go_wp2_with fail
        have K1 := S1 (Step.rf (c := c') (w := W')).drew
        obtain ⟨k1, k2, k3, k4, k5⟩ := S1 (Step.rf (c := c') (w := W'))
        refine wp_region_noPanic ?_
        refine region_planM (fun W => W.cell? ⟨w.heap.size, 0, none⟩ = some (.slice oa pre.length oc) ∧ W.cell? ⟨w.heap.size + 1, 0, none⟩ = some (.slice aa (asked.length + 1) ac) ∧ W.cell? ⟨w1.heap.size, 0, none⟩ = some (.pointer (some ⟨w.heap.size + 1 + 1, 0, none⟩)) ∧ W.frozen? ⟨w.heap.size, 0, none⟩ = false ∧ W.frozen? ⟨w.heap.size + 1, 0, none⟩ = false) (fun _ => true) (by kernel_rfl) ?_
        refine wpAnyM.takeT (i := 0) (v := _) (some 66) rfl rfl (by kernel_rfl) (by kernel_rfl) (by kernel_rfl) (by kernel_rfl) (by kernel_rfl) (fun _ _ _ h => h) (Or.inl ⟨by rfl, fun W hW => by first | (obtain ⟨q0, q1, q2, q3, q4⟩ := hW; go_simp <;> rfl) | (obtain ⟨q0, q1, q2, q3, q4⟩ := hW; go_simp; done)⟩) K1 ?_
        (try simp only [Act.put, List.setIfInBounds_toArray, List.set_cons_zero, List.set_cons_succ])
        refine wpAnyM.takeT (i := 1) (v := _) (some 67) rfl rfl (by kernel_rfl) (by kernel_rfl) (by kernel_rfl) (by kernel_rfl) (by kernel_rfl) (fun _ _ _ h => h) (Or.inl ⟨by rfl, fun W hW => by first | (obtain ⟨q0, q1, q2, q3, q4⟩ := hW; go_simp <;> rfl) | (obtain ⟨q0, q1, q2, q3, q4⟩ := hW; go_simp; done)⟩) K1 ?_
        (try simp only [Act.put, List.setIfInBounds_toArray, List.set_cons_zero, List.set_cons_succ])
        refine wpAnyM.takeT (i := 2) (v := _) (some 68) rfl rfl (by kernel_rfl) (by kernel_rfl) (by kernel_rfl) (by kernel_rfl) (by kernel_rfl) (fun _ _ _ h => h) (Or.inl ⟨by rfl, fun W hW => by first | (obtain ⟨q0, q1, q2, q3, q4⟩ := hW; go_simp <;> rfl) | (obtain ⟨q0, q1, q2, q3, q4⟩ := hW; go_simp; done)⟩) K1 ?_
        (try simp only [Act.put, List.setIfInBounds_toArray, List.set_cons_zero, List.set_cons_succ])
        refine wpAnyM.one (i := 3) (by kernel_rfl) rfl (fun KQ hK => ?_)
        go_simp
        refine (DC 1).mono ?_
        rintro e W3 ⟨rfl, rfl⟩
        refine hK.out _ _ (fun _ => K1) ?_
        clear hK KQ
        (try simp only [Act.put, List.setIfInBounds_toArray, List.set_cons_zero, List.set_cons_succ])
        refine wpAnyM.one (i := 4) (by kernel_rfl) rfl (fun KQ hK => ?_)
        go_simp
        have K2 := S2 _ K1
        refine hK.out _ _ (fun _ => K2) ?_
        clear hK KQ
        (try simp only [Act.put, List.setIfInBounds_toArray, List.set_cons_zero, List.set_cons_succ])
        refine wpAnyM.one (i := 5) (by kernel_rfl) rfl (fun KQ hK => ?_)
        go_simp
        have K3 := S3 _ K2
        refine hK.out _ _ (fun _ => K3) ?_
        clear hK KQ
        (try simp only [Act.put, List.setIfInBounds_toArray, List.set_cons_zero, List.set_cons_succ])
        refine wpAnyM.one (i := 6) (by kernel_rfl) rfl (fun KQ hK => ?_)
        go_simp
        refine hK.out _ _ (fun _ => K3) ?_
        clear hK KQ
        (try simp only [Act.put, List.setIfInBounds_toArray, List.set_cons_zero, List.set_cons_succ])
        refine wpAnyM.one (i := 7) (by kernel_rfl) rfl (fun KQ hK => ?_)
        go_simp
        refine hK.out _ _ (fun _ => K3) ?_
        clear hK KQ
        (try simp only [Act.put, List.setIfInBounds_toArray, List.set_cons_zero, List.set_cons_succ])
        refine wpAnyM.done (by kernel_rfl) (noPanic_normal ?_) _
        obtain ⟨h2, ho, hs', hD, hDc⟩ := X.out
        go_wp2_with fail
        obtain ⟨m1, m2, _, _, _⟩ := K3
        have hDl : D < W'.heap.size := (Array.getElem?_eq_some_iff.1 hD).1
        have sQ : Step (Two kn kn2) c' W' c' (((W'.drewN 1).setCell ⟨w.heap.size, 0, none⟩ (.slice oa pre.length oc)).setCell ⟨w.heap.size + 1, 0, none⟩ (.slice aa (asked.length + 1) ac)) :=
          ((Step.refl.drewN 1).setCell (a := ⟨w.heap.size, 0, none⟩) (.inr (.inl h2.a6.col)) _).setCell (a := ⟨w.heap.size + 1, 0, none⟩) (.inr (.inr h2.a7.col)) _
        have q6 := (sQ.block D hDl (by rw [hDc]; rintro (h | h) <;> omega)).trans hD
        have dO := ((ho.drewN 1).setCell ⟨w.heap.size, 0, none⟩ (.slice oa pre.length oc)).setCell ⟨w.heap.size + 1, 0, none⟩ (.slice aa (asked.length + 1) ac)
        have l6 := Nat.lt_of_lt_of_le h2.a6.lt sQ.size
        have l7' := Nat.lt_of_lt_of_le h2.a7.lt sQ.size
        have d6 : w.heap.size ≠ D := fun e => by have := h2.a6.col; rw [e, hDc] at this; omega
        have d7 : w.heap.size + 1 ≠ D := fun e => by have := h2.a7.col; rw [e, hDc] at this; omega
        obtain ⟨W5, hW5⟩ : ∃ W5, ((W'.drewN 1).setCell ⟨w.heap.size, 0, none⟩ (.slice oa pre.length oc)).setCell ⟨w.heap.size + 1, 0, none⟩ (.slice aa (asked.length + 1) ac) = W5 := ⟨_, rfl⟩
        have m1' : W5.cell? ⟨w.heap.size, 0, none⟩ = some (.slice oa pre.length oc) := hW5 ▸ m1
        have m2' : W5.cell? ⟨w.heap.size + 1, 0, none⟩ = some (.slice aa (asked.length + 1) ac) := hW5 ▸ m2
        rw [hW5] at sQ q6 dO ⊢
        clear hW5 m1 m2
        have n1 : (W5.putObj D (.deferred none)).cell? ⟨w.heap.size, 0, none⟩ = some (.slice oa pre.length oc) := (World.cell?_of_block (w := W5) (World.putObj_heap_other d6)).trans m1'
        have n2 : (W5.putObj D (.deferred none)).cell? ⟨w.heap.size + 1, 0, none⟩ = some (.slice aa (asked.length + 1) ac) := (World.cell?_of_block (w := W5) (World.putObj_heap_other d7)).trans m2'
        have sR : Step (fun j => j = kn ∨ j = kn2 ∨ j = kl) c' W' c' (W5.putObj D (.deferred none)) := (sQ.mono fun j h => by rcases h with h | h; exact .inl h; exact .inr (.inl h)).putObj (.inr (.inr (.inr hDc))) _
        have O6 : Ok c' (W5.putObj D (.deferred none)) := dO.putObj _ (fun a ha => frozen_def a ha)
        have o6 := h2.o6.keep sR (by show ¬ (q = kn ∨ q = kn2 ∨ q = kl); omega) (by show ¬ (0 = kn ∨ 0 = kn2 ∨ 0 = kl); omega)
        have o7 := h2.o7.keep sR (by show ¬ (q2 = kn ∨ q2 = kn2 ∨ q2 = kl); omega) (by show ¬ (0 = kn ∨ 0 = kn2 ∨ 0 = kl); omega)
        have T : Step (And1 (K6 kn kn2 q q2 ks kr) kl) c w c' (W5.putObj D (.deferred none)) := (SW.ofNo.trans hs').trans (sR.mono fun j h => by rcases h with h | h | h; exact .inl (.inl h); exact .inl (.inr (.inl h)); exact .inr h)
        refine leaveM q6 rfl (v := .tuple #[.slice oa pre.length oc, .slice aa (asked.length + 1) ac, .bool false, .int .i64 0]) (by simp [results, Try.results14, go_sem, n1, n2]) ⟨_, _, by rw [HP.out], (c'.turn q ka).turn q2 kb, ?_, ?_, ?_, (O6.turn (by omega)).turn (by omega)⟩
        · rw [HP.out]
          exact ((o6.turn (k := ka) (by omega)).keep ((Step.refl (K := One q2)).turn rfl) (by show ¬ ka = q2; omega) (by show ¬ 0 = q2; omega)).sl
        · rw [HP.out]
          exact ((o7.keep ((Step.refl (K := One q)).turn (q := q) (k := ka) rfl) (by show ¬ q2 = q; omega) (by show ¬ 0 = q; omega)).turn (k := kb) (by omega)).sl
        · refine ((T.turn (q := q) (k := ka) (.inl (.inr (.inr (.inl rfl))))).turn (q := q2) (k := kb) (.inl (.inr (.inr (.inr (.inl rfl)))))).drop fun b _ h => ?_
          rcases h with (h | h | h | h | h | h) | h
          · exact hknc b h
          · exact hkn2c b h
          · exact hqc b h
          · exact hqc2 b h
          · exact hksc b h
          · exact hkrc b h
          · exact hkl0 b h
end
end Go.Proofs.Ytcagfdmafelbkab
