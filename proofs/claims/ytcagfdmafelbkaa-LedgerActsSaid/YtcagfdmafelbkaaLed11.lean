/- Ledger: awake, LongEntries, and the law LedgerNone. -/
import Derived.Test.YtcagfdmafelbkaaLed10
namespace Go.Proofs.Ytcagfdmafelbkaa
open Go.RowKit Go.Shelf

set_option maxRecDepth 100000 in
set_option maxHeartbeats 1600000 in
theorem awake_any {c : Col} {w : World} (hok : Ok c w) :
    Calls Try.prog 10 #[] w fun r w' => r = .returned (.bool true) ∧ ∃ c', Step No c w c' w' ∧ Ok c' w' := by
  obtain ⟨k, hk, hkc⟩ := hok.spare 0
  obtain ⟨kr, hkr, hkrc⟩ := hok.spare k
  have F1 := first_any hok (k := k) (kr := kr) (by omega) (by omega) (by omega) hkc hkrc
  go_enter Try.func10, Try.ntmps10
  go_wp2_with fail
  refine F1.mono ?_
  clear F1
  rintro e w1 ⟨b, rfl, c1, i1, s1, o1⟩
  have B1 := strikes_any o1 i1 (by decide) (by decide) 0
  go_wp2_with fail
  refine B1.mono ?_
  clear B1
  rintro e w2 ⟨rfl, c2, s2, o2⟩
  rw [show cnt (aboutL firstL 0) 2 = 2 from by decide]
  have i2 := i1.keep s2 (fun h => h) (fun h => h) (fun h => h)
  have t2 := s1.trans s2
  clear i1 o1 s1 s2
  have B1 := gone_any o2 i2 (by decide) (by decide) 0 2
  go_wp2_with fail
  refine B1.mono ?_
  clear B1
  rintro e w3 ⟨rfl, c3, s3, o3⟩
  rw [show goneL firstL 0 2 = 1 from by decide]
  have i3 := i2.keep s3 (fun h => h) (fun h => h) (fun h => h)
  have t3 := t2.trans s3
  clear i2 o2 s3 t2
  have B1 := gone_any o3 i3 (by decide) (by decide) 0 3
  go_wp2_with fail
  refine B1.mono ?_
  clear B1
  rintro e w4 ⟨rfl, c4, s4, o4⟩
  rw [show goneL firstL 0 3 = 0 from by decide]
  have i4 := i3.keep s4 (fun h => h) (fun h => h) (fun h => h)
  have t4 := t3.trans s4
  clear i3 o3 s4 t3
  have B1 := gone_any o4 i4 (by decide) (by decide) 1 0
  go_wp2_with fail
  refine B1.mono ?_
  clear B1
  rintro e w5 ⟨rfl, c5, s5, o5⟩
  rw [show goneL firstL 1 0 = 0 from by decide]
  have i5 := i4.keep s5 (fun h => h) (fun h => h) (fun h => h)
  have t5 := t4.trans s5
  clear i4 o4 s5 t4
  have B1 := of_empty o5 i5 (by decide) (by decide) (by intro e he; simp [firstL] at he; rcases he with rfl | rfl <;> decide) 1 (by decide) 0 0
  go_wp2_with fail
  refine B1.mono ?_
  clear B1
  rintro e w6 ⟨v, c6, rfl, v6, s6, o6⟩
  obtain ⟨va, vc, rfl, _⟩ := v6.form
  have t6 := t5.trans s6
  go_wp2_with fail
  go_ret
  exact ⟨rfl, c6, t6, o6⟩

/-- Is an entry long, or are there more than so many? -/
def longE (l : List Entry) (most : Int) : Bool := l.any (fun e => decide (1500 < e.bytes.length)) || decide (most < l.length)

theorem take_any (l : List Entry) (j : Nat) (h : j < l.length) : (l.take (j + 1)).any (fun e => decide (1500 < e.bytes.length)) = ((l.take j).any (fun e => decide (1500 < e.bytes.length)) || decide (1500 < l[j].bytes.length)) := by
  rw [List.take_succ_eq_append_getElem h, List.any_append]; simp

set_option maxRecDepth 100000 in
set_option maxHeartbeats 800000 in
theorem long_any {c : Col} {w : World} {kr k2 : Nat} {v : Value} {l : List Entry} (hl : Sl TEntry c kr k2 w v l) (most : Int) :
    Calls Try.prog 9 #[v, .int .i64 most] w fun r w' => r = .returned (.bool (longE l most)) ∧ w = w' := by
  have hm := hl.length_le
  unfold maxLen at hm
  rcases hl with ⟨rfl, a0, cap0, rfl, _⟩ | hs'
  · go_enter Try.func9, Try.ntmps9
    go_wp2
    refine wp_loop_once ?_
    go_wp2
    go_ret
    exact ⟨by simp [longE], rfl⟩
  · have hs0 : Sl TEntry c kr k2 w v l := .inr hs'
    obtain ⟨g, off, cap, rfl, hlc, hcm, hgc, hgl, _⟩ := hs'
    go_enter Try.func9, Try.ntmps9
    go_wp2
    go_loop [5] (fun i => ∃ j : Nat, j ≤ l.length ∧ i = .int .i64 j ∧ (l.take j).any (fun e => decide (1500 < e.bytes.length)) = false) (fun i => l.length - (intOf i).toNat)
    case atStart => exact ⟨0, Nat.zero_le _, rfl, by simp⟩
    case round =>
      obtain ⟨j, hj, rfl, hno⟩ := hrel
      have HNO := Lib.hid hno
      clear hno
      by_cases hlt : j < l.length
      · obtain ⟨bv, e1, e2, y0, y1, y2, y3, y4, y5⟩ := entry_at hs0 (j := j) (e := l[j]) (by simp [hlt])
        obtain ⟨ba, bc, rfl, _⟩ := e2.form
        have TA := Lib.hid (take_any l j hlt)
        by_cases hmo : (j : Int) ≤ most
        · have dm : decide ((j : Int) ≤ most) = true := by simpa using hmo
          by_cases hb : 1500 < l[j].bytes.length
          · have db : decide ((1500 : Int) < (l[j].bytes.length : Int)) = true := by simp; omega
            go_wp2
            go_ret
            refine ⟨?_, rfl⟩
            have : l.any (fun e => decide (1500 < e.bytes.length)) = true := by
              rw [List.any_eq_true]; exact ⟨l[j], List.getElem_mem hlt, by simpa using hb⟩
            simp only [longE, this, Bool.true_or]
            rfl
          · have db : decide ((1500 : Int) < (l[j].bytes.length : Int)) = false := by simp; omega
            go_wp2
            go_round
            case rel => exact ⟨j + 1, by omega, by go_num, by rw [TA.out, HNO.out]; simpa using hb⟩
            case measure => simp [intOf]; omega
        · have dm : decide ((j : Int) ≤ most) = false := by simpa using hmo
          go_wp2
          go_ret
          refine ⟨?_, rfl⟩
          have : most < (l.length : Int) := by omega
          simp [longE, this]
      · have hjl : j = l.length := by omega
        have HJ := Lib.hid hjl
        clear hjl
        go_wp2
        go_ret
        refine ⟨?_, rfl⟩
        have h2 := HNO.out
        rw [HJ.out, List.take_length] at h2
        simp only [longE, h2, Bool.false_or]
        rfl

set_option maxRecDepth 100000 in
set_option maxHeartbeats 1600000 in
/-- The law: whatever the entry and the numbers. -/
theorem none_law {w : World} {kx : Nat} {vs : List Value} {e : Entry} (he : TEntry.rd (fun _ => 0) kx w vs e) (who most : Int) :
    Calls Try.prog 4 #[.agg vs.toArray, .int .i64 who, .int .i64 most] w fun r w' => r = .returned (.bool true) ∧ Below w.heap.size w w' := by
  have hok : Ok (fun _ => 0) w := Ok.zero w
  have he' := he
  obtain ⟨bv, rfl, hb⟩ := he
  obtain ⟨ba, bc, rfl, _⟩ := hb.form
  obtain ⟨now, whoe, kind, fault, id, bytes⟩ := e
  dsimp only at *
  have bel : ∀ {c' : Col} {w' : World}, Step No (fun _ => 0) w c' w' → Below w.heap.size w w' := fun h => h.below (fun _ _ x => x)
  have o1 := hok.alloc (.cells #[.int .i64 now, .int .i64 whoe, .int .i64 kind, .int .i64 fault, .int .i64 id, .slice ba bytes.length bc] 34)
  obtain ⟨x1, x2, x3⟩ := put_one (T := TEntry) o1 (Ty.kn he' (Step.al _)) 34
  simp only [World.size_alloc] at x2
  have L1 := long_any x2 1
  go_enter Try.func4, Try.ntmps4
  go_wp2_with fail
  with_reducible refine L1.mono ?_
  rintro e w1 ⟨rfl, rfl⟩
  cases hlong : longE [⟨now, whoe, kind, fault, id, bytes⟩] 1
  · go_wp2_with fail
    obtain ⟨W0, hW0⟩ : ∃ W0, (((w.alloc (.cells #[.int .i64 now, .int .i64 whoe, .int .i64 kind, .int .i64 fault, .int .i64 id, .slice ba bytes.length bc] 34)).alloc (.cells #[.int .i64 now, .int .i64 whoe, .int .i64 kind, .int .i64 fault, .int .i64 id, .slice ba bytes.length bc] 34)).alloc (.cells #[.int .i64 0, .slice none 0 0] 49)).alloc (.cells #[.pointer none, .pointer (some ⟨w.heap.size + 1 + 1, 0, none⟩)] 25) = W0 := ⟨_, rfl⟩
    have hb0 : Below w.heap.size w W0 := by
      rw [← hW0]
      exact ((((Below.refl _ w).alloc (Nat.le_refl _) _).alloc (by first | (simp; done) | (simp; omega)) _).alloc (by first | (simp; done) | (simp; omega)) _).alloc (by first | (simp; done) | (simp; omega)) _
    have q0 : CellsAt W0 w.heap.size 0 [.int .i64 now, .int .i64 whoe, .int .i64 kind, .int .i64 fault, .int .i64 id, .slice ba bytes.length bc] := by
      rw [← hW0]
      refine CellsAt.kn (c := fun _ => 0) (c' := fun _ => 0) (((Step.al _).trans (Step.al _)).trans (Step.al _)) (by simp) (cellsAt_new w _ _ _)
    have q1 : CellsAt W0 (w.heap.size + 1 + 1) 0 [.int .i64 0, .slice none 0 0] := by
      rw [← hW0]
      refine CellsAt.kn (c := fun _ => 0) (c' := fun _ => 0) (Step.al _) (by simp) ?_
      have := cellsAt_new ((w.alloc (.cells #[.int .i64 now, .int .i64 whoe, .int .i64 kind, .int .i64 fault, .int .i64 id, .slice ba bytes.length bc] 34)).alloc (.cells #[.int .i64 now, .int .i64 whoe, .int .i64 kind, .int .i64 fault, .int .i64 id, .slice ba bytes.length bc] 34)) [.int .i64 0, .slice none 0 0] 49 (0, 0)
      simpa only [World.size_alloc] using this
    have q2 : CellsAt W0 (w.heap.size + 1 + 1 + 1) 0 [.pointer none, .pointer (some ⟨w.heap.size + 1 + 1, 0, none⟩)] := by
      rw [← hW0]
      have := cellsAt_new (((w.alloc (.cells #[.int .i64 now, .int .i64 whoe, .int .i64 kind, .int .i64 fault, .int .i64 id, .slice ba bytes.length bc] 34)).alloc (.cells #[.int .i64 now, .int .i64 whoe, .int .i64 kind, .int .i64 fault, .int .i64 id, .slice ba bytes.length bc] 34)).alloc (.cells #[.int .i64 0, .slice none 0 0] 49)) [.pointer none, .pointer (some ⟨w.heap.size + 1 + 1, 0, none⟩)] 25 (0, 0)
      simpa only [World.size_alloc] using this
    have hsz : W0.heap.size = w.heap.size + 4 := by rw [← hW0]; simp
    rw [hW0]
    clear hW0 x1 x2 x3 o1 L1 he' hb
    have HSZ := Lib.hid hsz
    clear hsz
    go_loopw [8] (fun i wr => ∃ j : Nat, j ≤ 2 ∧ i = .int .i64 j ∧ Below W0.heap.size W0 wr) (fun i _ => 2 - (intOf i).toNat)
    case atStart => exact ⟨0, by omega, rfl, Below.refl _ _⟩
    case round =>
      obtain ⟨j, hj, rfl, hbl⟩ := hrel
      have HSZ' := HSZ.out
      have e0 : wr.cell? ⟨w.heap.size, 0, none⟩ = some (.int .i64 now) := (hbl.cell (p := ⟨_, _, none⟩) (by show w.heap.size < _; omega)).trans (q0 0 _ rfl)
      have e1 : wr.cell? ⟨w.heap.size, 1, none⟩ = some (.int .i64 whoe) := (hbl.cell (p := ⟨_, _, none⟩) (by show w.heap.size < _; omega)).trans (q0 1 _ rfl)
      have e2 : wr.cell? ⟨w.heap.size, 2, none⟩ = some (.int .i64 kind) := (hbl.cell (p := ⟨_, _, none⟩) (by show w.heap.size < _; omega)).trans (q0 2 _ rfl)
      have e3 : wr.cell? ⟨w.heap.size, 3, none⟩ = some (.int .i64 fault) := (hbl.cell (p := ⟨_, _, none⟩) (by show w.heap.size < _; omega)).trans (q0 3 _ rfl)
      have e4 : wr.cell? ⟨w.heap.size, 4, none⟩ = some (.int .i64 id) := (hbl.cell (p := ⟨_, _, none⟩) (by show w.heap.size < _; omega)).trans (q0 4 _ rfl)
      have e5 : wr.cell? ⟨w.heap.size, 5, none⟩ = some (.slice ba bytes.length bc) := (hbl.cell (p := ⟨_, _, none⟩) (by show w.heap.size < _; omega)).trans (q0 5 _ rfl)
      have e6 : wr.cell? ⟨w.heap.size + 1 + 1, 0, none⟩ = some (.int .i64 0) := (hbl.cell (p := ⟨_, _, none⟩) (by show w.heap.size + 1 + 1 < _; omega)).trans (q1 0 _ rfl)
      have e7 : wr.cell? ⟨w.heap.size + 1 + 1 + 1, 0, none⟩ = some (.pointer none) := (hbl.cell (p := ⟨_, _, none⟩) (by show w.heap.size + 1 + 1 + 1 < _; omega)).trans (q2 0 _ rfl)
      have e8 : wr.cell? ⟨w.heap.size + 1 + 1 + 1, 1, none⟩ = some (.pointer (some ⟨w.heap.size + 1 + 1, 0, none⟩)) := (hbl.cell (p := ⟨_, _, none⟩) (by show w.heap.size + 1 + 1 + 1 < _; omega)).trans (q2 1 _ rfl)
      clear HSZ'
      match j, hj with
      | 0, _ =>
        have hN : NoLed wr (.pointer none) := .inl rfl
        have C1 := add_no hN now whoe kind fault id (.slice ba bytes.length bc) ⟨_, _, _, rfl⟩
        go_wp2_with fail
        refine C1.mono ?_
        rintro e w1 ⟨rfl, b1⟩
        have hN1 := hN.below b1
        have C2 := list_no hN1
        go_wp2_with fail
        refine C2.mono ?_
        rintro e w1 ⟨rfl, rfl⟩
        have C3 := of_no hN1 who
        go_wp2_with fail
        refine C3.mono ?_
        rintro e w3 ⟨rfl, b3⟩
        have hN3 := hN1.below b3
        have C4 := strikes_no hN3 who
        go_wp2_with fail
        refine C4.mono ?_
        rintro e w3 ⟨rfl, rfl⟩
        have C5 := gone_no hN3 who most
        go_wp2_with fail
        refine C5.mono ?_
        rintro e w3 ⟨rfl, rfl⟩
        go_wp2_with fail
        go_roundw
        case rel => exact ⟨1, by omega, rfl, hbl.trans ((b1.mono hbl.size).trans (b3.mono (Nat.le_trans hbl.size b1.size)))⟩
        case measure => simp [intOf]
      | 1, _ =>
        have hN : NoLed wr (.pointer (some ⟨w.heap.size + 1 + 1, 0, none⟩)) := .inr ⟨_, rfl, e6⟩
        have C1 := add_no hN now whoe kind fault id (.slice ba bytes.length bc) ⟨_, _, _, rfl⟩
        go_wp2_with fail
        refine C1.mono ?_
        rintro e w1 ⟨rfl, b1⟩
        have hN1 := hN.below b1
        have C2 := list_no hN1
        go_wp2_with fail
        refine C2.mono ?_
        rintro e w1 ⟨rfl, rfl⟩
        have C3 := of_no hN1 who
        go_wp2_with fail
        refine C3.mono ?_
        rintro e w3 ⟨rfl, b3⟩
        have hN3 := hN1.below b3
        have C4 := strikes_no hN3 who
        go_wp2_with fail
        refine C4.mono ?_
        rintro e w3 ⟨rfl, rfl⟩
        have C5 := gone_no hN3 who most
        go_wp2_with fail
        refine C5.mono ?_
        rintro e w3 ⟨rfl, rfl⟩
        go_wp2_with fail
        go_roundw
        case rel => exact ⟨2, by omega, rfl, hbl.trans ((b1.mono hbl.size).trans (b3.mono (Nat.le_trans hbl.size b1.size)))⟩
        case measure => simp [intOf]
      | 2, _ =>
        go_wp2_with fail
        have hok2 : Ok (fun _ => 0) wr := Ok.zero wr
        refine (awake_any hok2).mono ?_
        rintro e w2 ⟨rfl, c2, s2, o2⟩
        go_wp2_with fail
        go_ret
        refine ⟨rfl, hb0.trans ((hbl.mono ?_).trans ((s2.below (fun _ _ x => x)).mono ?_))⟩
        · have := HSZ.out; omega
        · have := HSZ.out; have := hbl.size; omega
  · go_wp2_with fail
    refine (awake_any x1).mono ?_
    rintro e w2 ⟨rfl, c2, s2, o2⟩
    go_wp2_with fail
    go_ret
    exact ⟨rfl, bel (((Step.al _).trans x3).trans s2)⟩
end Go.Proofs.Ytcagfdmafelbkaa
