/- Ledger: contracts of the program's functions, second part. -/
import Derived.Test.YtcagfdmafelbkaaLed1
import Derived.Test.YtcagfdmafelbkaaLedD
namespace Go.Proofs.Ytcagfdmafelbkaa
open Go.RowKit

set_option maxHeartbeats 400000 in
theorem kept_any {c : Col} {w : World} (hok : Ok c w) (k : Nat) {kx : Nat} {vs : List Value} {e : Entry} (he : TEntry.rd c kx w vs e) (hlen : e.bytes.length ≤ 1000000000) :
    Calls Try.prog 56 #[.agg vs.toArray] w fun r w' => ∃ vs' c', r = .returned (.agg vs'.toArray) ∧ TEntry.rd c' k w' vs' e.kept ∧ Step No c w c' w' ∧ Ok c' w' := by
  obtain ⟨now, who, kind, fault, id, l⟩ := e
  obtain ⟨bv, rfl, hb⟩ := he
  dsimp only at hb hlen
  obtain ⟨a, cap, rfl, hform⟩ := hb.form
  obtain ⟨q, hq, hqc⟩ := hok.spare k
  have hq0 : q ≠ 0 := by omega
  have hkq : k ≠ q := by omega
  by_cases h1 : kind = 1
  · subst h1
    go_enter Try.func56, Try.ntmps56
    go_wp2_with fail
    refine (clone_bytes (((hok.alloc _).alloc _).alloc _) q q (hb.keep (((Step.refl (K := No).alloc _).alloc _).alloc _) (fun h => h) (fun h => h)) hlen).mono ?_
    rintro e w1 ⟨v', c1, rfl, a1, a2, a3⟩
    obtain ⟨f1, f2⟩ := a2.facts
    have hL : ∀ b, w.heap.size ≤ b → b < w.heap.size + 3 → c1 b ≠ q := fun b h1 h2 => by rw [a2.col b (by simp; omega) (fun x => x), hok.fresh b h1]; omega
    obtain ⟨av, cv, rfl, _⟩ := a1.sl.form
    go_wp2_with fail
    refine bodyPost_ret (v := .agg #[.int .i64 now, .int .i64 who, .int .i64 1, .int .i64 fault, .int .i64 0, .slice av l.length cv]) (by simp [results, Try.results56, go_sem, f1, f2]) rfl ⟨_, c1.turn q k, rfl, ⟨_, rfl, ?_⟩, ?_, ?_⟩
    · refine Sl.turn (Sl.any (k2 := q) ?_ k) hkq
      repeat (refine Sl.set ?_ (hL _ (by first | (simp; done) | (simp; omega)) (by first | (simp; done) | (simp; omega))) (hL _ (by first | (simp; done) | (simp; omega)) (by first | (simp; done) | (simp; omega))) _)
      exact a1.sl
    · refine Step.own (Step.turn (q := q) (K := One q) ?_ rfl) hqc
      refine Step.ofNo ?_
      repeat (refine Step.setCell ?_ (.inl (by first | (simp; done) | (simp; omega))) _)
      exact (((Step.refl.alloc _).alloc _).alloc _).trans a2
    · refine Ok.turn ?_ hq0
      repeat (refine Ok.setCell ?_ _ _)
      exact a3
  by_cases h3 : kind = 3
  · subst h3
    go_enter Try.func56, Try.ntmps56
    go_wp2_with fail
    refine (clone_bytes (((hok.alloc _).alloc _).alloc _) q q (hb.keep (((Step.refl (K := No).alloc _).alloc _).alloc _) (fun h => h) (fun h => h)) hlen).mono ?_
    rintro e w1 ⟨v', c1, rfl, a1, a2, a3⟩
    obtain ⟨f1, f2⟩ := a2.facts
    have hL : ∀ b, w.heap.size ≤ b → b < w.heap.size + 3 → c1 b ≠ q := fun b h1 h2 => by rw [a2.col b (by simp; omega) (fun x => x), hok.fresh b h1]; omega
    obtain ⟨av, cv, rfl, _⟩ := a1.sl.form
    go_wp2_with fail
    refine bodyPost_ret (v := .agg #[.int .i64 now, .int .i64 who, .int .i64 3, .int .i64 0, .int .i64 0, .slice av l.length cv]) (by simp [results, Try.results56, go_sem, f1, f2]) rfl ⟨_, c1.turn q k, rfl, ⟨_, rfl, ?_⟩, ?_, ?_⟩
    · refine Sl.turn (Sl.any (k2 := q) ?_ k) hkq
      repeat (refine Sl.set ?_ (hL _ (by first | (simp; done) | (simp; omega)) (by first | (simp; done) | (simp; omega))) (hL _ (by first | (simp; done) | (simp; omega)) (by first | (simp; done) | (simp; omega))) _)
      exact a1.sl
    · refine Step.own (Step.turn (q := q) (K := One q) ?_ rfl) hqc
      refine Step.ofNo ?_
      repeat (refine Step.setCell ?_ (.inl (by first | (simp; done) | (simp; omega))) _)
      exact (((Step.refl.alloc _).alloc _).alloc _).trans a2
    · refine Ok.turn ?_ hq0
      repeat (refine Ok.setCell ?_ _ _)
      exact a3
  by_cases h2 : kind = 2
  · subst h2
    go_enter Try.func56, Try.ntmps56
    go_wp2_with fail
    refine bodyPost_ret (v := .agg #[.int .i64 now, .int .i64 who, .int .i64 2, .int .i64 0, .int .i64 id, .slice none 0 0]) (by simp [results, Try.results56, go_sem]) rfl ⟨_, c, rfl, ⟨_, by simp [Entry.kept]; rfl, by simp [Entry.kept]; exact Sl.nil _ _ _ _ _⟩, ?_, ?_⟩
    · repeat (first | exact Step.refl | refine Step.alloc ?_ _ | refine Step.setCell ?_ (.inl (by first | (simp; done) | (simp; omega))) _)
    · repeat (first | exact hok | refine Ok.alloc ?_ _ | refine Ok.setCell ?_ _ _)
  · have e1 : (kind == 1) = false := by simpa using h1
    have e2 : (kind == 2) = false := by simpa using h2
    have e3 : (kind == 3) = false := by simpa using h3
    go_enter Try.func56, Try.ntmps56
    go_wp2_with fail
    refine bodyPost_ret (v := .agg #[.int .i64 now, .int .i64 who, .int .i64 kind, .int .i64 0, .int .i64 0, .slice none 0 0]) (by simp [results, Try.results56, go_sem]) rfl ⟨_, c, rfl, ⟨_, by simp [Entry.kept, h1, h2, h3]; rfl, by simp [Entry.kept, h1, h2, h3]; exact Sl.nil _ _ _ _ _⟩, ?_, ?_⟩
    · repeat (first | exact Step.refl | refine Step.alloc ?_ _ | refine Step.setCell ?_ (.inl (by first | (simp; done) | (simp; omega))) _)
    · repeat (first | exact hok | refine Ok.alloc ?_ _ | refine Ok.setCell ?_ _ _)
end Go.Proofs.Ytcagfdmafelbkaa
