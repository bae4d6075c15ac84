/- Ledger: about (an iterator), many, Of, Strikes, Gone. -/
import Derived.Test.YtcagfdmafelbkaaLed4
import Derived.Test.YtcagfdmafelbkaaRng
namespace Go.Proofs.Ytcagfdmafelbkaa
open Go.RowKit
attribute [local go_sem] Oper.semAt_some

/-- Those about somebody. -/
def aboutL (l : List Entry) (who : Int) : List Entry := l.filter (fun e => e.who == who)

theorem aboutL_snoc (l : List Entry) (who : Int) (j : Nat) (h : j < l.length) : aboutL (l.take (j + 1)) who = aboutL (l.take j) who ++ (if l[j].who == who then [l[j]] else []) := by
  rw [List.take_succ_eq_append_getElem h]
  unfold aboutL
  rw [List.filter_append]
  congr 1
  by_cases h : l[j].who == who <;> simp [h]

theorem aboutL_prefix (l : List Entry) (who : Int) (j : Nat) : aboutL (l.take j) who <+: aboutL l who := by
  unfold aboutL
  exact (List.take_prefix j l).filter _

def aboutA (x : Entry) (c : Col) (W : World) (xs : Array Value) : Prop := ∃ (i : Int) (vs : List Value), xs = #[.int .i64 i, .agg vs.toArray] ∧ TEntry.rd c 0 W vs x

set_option maxRecDepth 100000 in
set_option maxHeartbeats 800000 in
theorem about_iter {c : Col} {w : World} {K : Nat → Prop} {B1 B2 kr : Nat} {v : Value} {who : Int} {l : List Entry} (h1 : w.cell? ⟨B1, 0, none⟩ = some v) (h2 : w.cell? ⟨B2, 0, none⟩ = some (.int .i64 who)) (hc1 : ¬ K (c B1)) (hc2 : ¬ K (c B2))
    (hl : Sl TEntry c kr 0 w v l) (hkr : ¬ K kr) (h0 : ¬ K 0) (hm : l.length ≤ 1000000000) :
    Iter Try.prog 78 #[.pointer (some ⟨B1, 0, none⟩), .pointer (some ⟨B2, 0, none⟩)] K c w aboutA (aboutL l who) := by
  intro lb J Jx c0 W0 hst hok hJ hJx hY hJ0
  have hb1 := World.block_lt_of_cell? w _ h1
  have hb2 := World.block_lt_of_cell? w _ h2
  have g1 : ∀ {c2 W2}, Step K c w c2 W2 → W2.cell? ⟨B1, 0, none⟩ = some v := fun h => (h.cell hb1 hc1).trans h1
  have g2 : ∀ {c2 W2}, Step K c w c2 W2 → W2.cell? ⟨B2, 0, none⟩ = some (.int .i64 who) := fun h => (h.cell hb2 hc2).trans h2
  have f1 := g1 hst
  have f2 := g2 hst
  obtain ⟨va, vc, rfl, _⟩ := hl.form
  have hml : l.length ≤ 9223372036854775807 := by omega
  have hsome : ∀ {j}, j < l.length → ∃ g off, va = some ⟨g, off, none⟩ := by
    intro j hj
    rcases hl with ⟨rfl, _⟩ | ⟨g, off, cap, h, _⟩
    · simp at hj
    · cases h; exact ⟨g, off, rfl⟩
  refine callsIn_of_wp Try.func78 rfl trivial ?_
  simp only [Try.ntmps78, List.size_toArray, List.length_cons, List.length_nil, Nat.reduceAdd, Nat.reduceSub, Array.replicate_succ, Array.replicate_zero, List.push_toArray, List.append_toArray, List.nil_append, List.cons_append]
  gi_wp2
  gi_loopw [8] (fun i wr => ∃ (j : Nat) (cr : Col), j ≤ l.length ∧ i = .int .i64 j ∧ Step K c0 W0 cr wr ∧ Ok cr wr ∧ J (aboutL (l.take j) who) cr wr) (fun i _ => l.length - (intOf i).toNat)
  case atStart => exact ⟨0, c0, Nat.zero_le _, rfl, Step.refl, hok, by simpa [aboutL] using hJ0⟩
  case round =>
    obtain ⟨j, cr, hj, rfl, s1, o1, j1⟩ := hrel
    have e1 := g1 (hst.trans s1)
    have e2 := g2 (hst.trans s1)
    by_cases hlt : j < l.length
    · have hv2 := hl.keep (hst.trans s1) hkr h0
      obtain ⟨g, off, hga⟩ := hsome hlt
      subst hga
      obtain ⟨bv, r1, r2, y0, y1, y2, y3, y4, y5⟩ := entry_at hv2 (j := j) (e := l[j]) (by simp [hlt])
      obtain ⟨ba, bc, rfl, _⟩ := r2.form
      have hB2r : B2 < wr.heap.size := Nat.lt_of_lt_of_le hb2 (hst.trans s1).size
      have hsn := aboutL_snoc l who j hlt
      by_cases hw : l[j].who = who
      · have hwb : (l[j].who == who) = true := by simpa using hw
        rw [hwb, if_pos rfl] at hsn
        have hpre : (aboutL (l.take j) who ++ [l[j]]) <+: aboutL l who := by rw [← hsn]; exact aboutL_prefix l who (j + 1)
        have s2 := s1.alloc (.cells #[.int .i64 l[j].now, .int .i64 l[j].who, .int .i64 l[j].kind, .int .i64 l[j].fault, .int .i64 l[j].id, .slice ba l[j].bytes.length bc] 34)
        have o2 := o1.alloc (.cells #[.int .i64 l[j].now, .int .i64 l[j].who, .int .i64 l[j].kind, .int .i64 l[j].fault, .int .i64 l[j].id, .slice ba l[j].bytes.length bc] 34)
        obtain ⟨fn, tmps, assign, body, hy, hR⟩ := hY _ _ _ _ #[.int .i64 j, .agg #[.int .i64 l[j].now, .int .i64 l[j].who, .int .i64 l[j].kind, .int .i64 l[j].fault, .int .i64 l[j].id, .slice ba l[j].bytes.length bc]] hpre (hJ _ _ _ _ _ j1 (Step.al _) o2) o2 (hst.trans s2) ⟨_, _, rfl, Ty.kn r1 (Step.al _)⟩
        have HSN := Lib.hid hsn
        clear hsn hw hJ hY
        gi_wp2
        refine ⟨rfl, hR.mono ?_⟩
        rintro e W3 ⟨c3, o3, s3, (⟨rfl, hJ3⟩ | ⟨rfl, hJx3⟩)⟩
        · gi_wp2
          go_roundw
          case rel => exact ⟨j + 1, c3, by omega, by go_num, s2.trans s3, o3, by rw [HSN.out]; exact hJ3⟩
          case measure => simp [intOf]; omega
        · gi_wp2
          refine bodyPost_ret (results_none rfl _ _ _) rfl ?_
          exact ⟨⟨_, rfl⟩, c3, o3, s2.trans s3, .inr ⟨_, hpre, hJx3⟩⟩
      · have hwb : (l[j].who == who) = false := by simpa using hw
        rw [hwb] at hsn
        simp only [Bool.false_eq_true, if_false, List.append_nil] at hsn
        have HSN := Lib.hid hsn
        clear hsn hw
        gi_wp2
        refine ⟨fun _ h => (by cases h), ?_⟩
        gi_wp2
        go_roundw
        case rel => exact ⟨j + 1, cr, by omega, by go_num, s1.alloc _, o1.alloc _, by rw [HSN.out]; exact hJ _ _ _ _ _ j1 (Step.al _) (o1.alloc _)⟩
        case measure => simp [intOf]; omega
    · have hjl : j = l.length := by omega
      have HJ := Lib.hid hjl
      clear hjl
      gi_wp2
      go_end0
      refine ⟨⟨_, rfl⟩, cr, o1, s1, .inl ?_⟩
      rw [HJ.out, List.take_length] at j1
      exact j1
end Go.Proofs.Ytcagfdmafelbkaa
