/- The laws' own kit: KeptBytes. -/
import Derived.Test.YtcagfdmafelbkaaKit4
import Derived.Test.YtcagfdmafelbkaaRnd2
namespace Go.Proofs.Ytcagfdmafelbkaa
open Go.RowKit

set_option maxRecDepth 100000 in
set_option maxHeartbeats 1600000 in
theorem keptBytes_any {c : Col} {w : World} (hok : Ok c w) {kx kx2 k k2 : Nat} {v : Value} {l : List UInt8} (hv : Sl TByte c kx kx2 w v l) {b off cap : Nat} (hcap : l.length + 4 ≤ cap) (hcm : cap ≤ maxLen)
    (hl : Sl TByte c k k2 w (.slice (some ⟨b, off, none⟩) (l.length + 4) cap) (l ++ four)) :
    Calls Try.prog 16 #[.slice (some ⟨b, off, none⟩) l.length cap, v] w fun e w' => e = .returned (.bool true) ∧ Step No c w c w' ∧ Ok c w' := by
  unfold maxLen at hcm
  obtain ⟨n4, hn4⟩ : ∃ n4, n4 = l.length + 4 := ⟨_, rfl⟩
  have i7 : four.length = n4 - l.length := by simp only [four, List.length_cons, List.length_nil]; omega
  have x1 : ∀ {c' : Col} {W : World}, Step No c w c' W → (convert 32 9 v).run Try.prog W = .ok (.string ⟨l.toArray⟩) W := fun s => conv_sl (hv.kn s) 32 9 5 Try.underlying32 Try.underlying5 Try.underlying9
  have x2 : ∀ {c' : Col} {W : World}, Step No c w c' W → (convert 32 9 (.slice (some ⟨b, off, none⟩) l.length cap)).run Try.prog W = .ok (.string ⟨l.toArray⟩) W := fun s => conv_sl ((hl.front (by decide)).kn s) 32 9 5 Try.underlying32 Try.underlying5 Try.underlying9
  have x3 : ∀ {c' : Col} {W : World}, Step No c w c' W → (convert 32 9 (.slice (some ⟨b, off + l.length, none⟩) (n4 - l.length) (cap - l.length))).run Try.prog W = .ok (.string ⟨four.toArray⟩) W := fun s => conv_sl (i7 ▸ ((hl.back (by decide)).kn s)) 32 9 5 Try.underlying32 Try.underlying5 Try.underlying9
  clear i7
  have x4 : ∀ W : World, (convert 32 9 (.slice (some ⟨W.heap.size, 0, none⟩) 4 4)).run Try.prog (W.alloc (.cells #[.int .u8 201, .int .u8 202, .int .u8 203, .int .u8 204] 5)) = .ok (.string ⟨four.toArray⟩) (W.alloc (.cells #[.int .u8 201, .int .u8 202, .int .u8 203, .int .u8 204] 5)) := fun W =>
    conv_sl (put_four (c := fun _ => 0) ⟨fun _ _ => rfl, fun _ _ h => absurd rfl h⟩ 0 5) 32 9 5 Try.underlying32 Try.underlying5 Try.underlying9
  obtain ⟨va, vc, rfl, hva⟩ := hv.form
  have X := Lib.hid (And.intro hok (And.intro (@x1) (And.intro (@x2) (@x3))))
  have i0 : (0 : Int) ≤ (l.length : Int) := by omega
  have i1 : (0 : Int) ≤ (cap : Int) := by omega
  have i2 : (cap : Int) ≤ (cap : Int) := Int.le_refl _
  have i3 : (l.length : Int) ≤ (n4 : Int) := by omega
  have i4 : (n4 : Int) ≤ (cap : Int) := by omega
  have i5 : IntKind.i64.wrap ((l.length : Int) + 4) = (n4 : Int) := (IntWalk.i64_in _ (by omega)).trans (by omega)
  have i10 : cap ≠ l.length := by omega
  have i8 : n4 ≤ cap := by omega
  have i9 : l.length ≤ n4 := by omega
  have i6 : decide ((n4 : Int) ≤ (cap : Int)) = true := by simpa using i4
  clear hv hva hl hok x1 x2 x3 hn4 hcap hcm
  go_enter Try.func16, Try.ntmps16
  go_wp2_with (fail)
  go_simp
  go_wp2_with (fail)
  have x5 : (convert 32 9 (.slice (some ⟨w.heap.size, 0, none⟩) 4 4)).run Try.prog (w.alloc (.cells #[.int .u8 201, .int .u8 202, .int .u8 203, .int .u8 204] 5)).drew = .ok (.string ⟨four.toArray⟩) (w.alloc (.cells #[.int .u8 201, .int .u8 202, .int .u8 203, .int .u8 204] 5)).drew := x4 w.drew
  have K0 : ∀ W, Step No c w c W → Ok c W → (fun W => Hid (Step No c w c W ∧ Ok c W) ∧ (convert 32 9 (.slice va l.length vc)).run Try.prog W = .ok (.string ⟨l.toArray⟩) W ∧ (convert 32 9 (.slice (some ⟨b, off, none⟩) l.length cap)).run Try.prog W = .ok (.string ⟨l.toArray⟩) W ∧ (convert 32 9 (.slice (some ⟨b, off + l.length, none⟩) (n4 - l.length) (cap - l.length))).run Try.prog W = .ok (.string ⟨four.toArray⟩) W) W := fun W s o => ⟨⟨s, o⟩, X.out.2.1 s, X.out.2.2.1 s, X.out.2.2.2 s⟩
  have K1 : (fun W => Hid (Step No c w c W ∧ Ok c W) ∧ (convert 32 9 (.slice va l.length vc)).run Try.prog W = .ok (.string ⟨l.toArray⟩) W ∧ (convert 32 9 (.slice (some ⟨b, off, none⟩) l.length cap)).run Try.prog W = .ok (.string ⟨l.toArray⟩) W ∧ (convert 32 9 (.slice (some ⟨b, off + l.length, none⟩) (n4 - l.length) (cap - l.length))).run Try.prog W = .ok (.string ⟨four.toArray⟩) W) w.drew := K0 w.drew Step.rf.drew X.out.1.drew
  have K2 : (fun W => Hid (Step No c w c W ∧ Ok c W) ∧ (convert 32 9 (.slice va l.length vc)).run Try.prog W = .ok (.string ⟨l.toArray⟩) W ∧ (convert 32 9 (.slice (some ⟨b, off, none⟩) l.length cap)).run Try.prog W = .ok (.string ⟨l.toArray⟩) W ∧ (convert 32 9 (.slice (some ⟨b, off + l.length, none⟩) (n4 - l.length) (cap - l.length))).run Try.prog W = .ok (.string ⟨four.toArray⟩) W) (w.drew.alloc (.cells #[.int .u8 201, .int .u8 202, .int .u8 203, .int .u8 204] 5)) := K0 _ (Step.rf.drew.alloc _) (X.out.1.drew.alloc _)
  clear K0 X x4
  refine region_planM (fun W => Hid (Step No c w c W ∧ Ok c W) ∧ (convert 32 9 (.slice va l.length vc)).run Try.prog W = .ok (.string ⟨l.toArray⟩) W ∧ (convert 32 9 (.slice (some ⟨b, off, none⟩) l.length cap)).run Try.prog W = .ok (.string ⟨l.toArray⟩) W ∧ (convert 32 9 (.slice (some ⟨b, off + l.length, none⟩) (n4 - l.length) (cap - l.length))).run Try.prog W = .ok (.string ⟨four.toArray⟩) W) (fun _ => true) (by kernel_rfl) ?_
  refine wpAnyM.take' (i := 0) (v := .slice (some ⟨b, off, none⟩) l.length cap) (some 10) rfl rfl (by kernel_rfl) (by kernel_rfl) (by kernel_rfl) (by kernel_rfl) (fun _ _ _ h => h) (Or.inl ⟨by rfl, ?_⟩) K1 ?_
  · rintro W ⟨g0, g1, g2, g3⟩
    go_simp
  (try simp only [Act.put, List.setIfInBounds_toArray, List.set_cons_zero, List.set_cons_succ])
  refine wpAnyM.take' (i := 1) (v := .int .i64 l.length) (some 11) rfl rfl (by kernel_rfl) (by kernel_rfl) (by kernel_rfl) (by kernel_rfl) (fun _ _ _ h => h) (Or.inl ⟨by rfl, ?_⟩) K1 ?_
  · rintro W ⟨g0, g1, g2, g3⟩
    go_simp
  (try simp only [Act.put, List.setIfInBounds_toArray, List.set_cons_zero, List.set_cons_succ])
  refine wpAnyM.take' (i := 2) (v := .slice va l.length vc) (some 12) rfl rfl (by kernel_rfl) (by kernel_rfl) (by kernel_rfl) (by kernel_rfl) (fun _ _ _ h => h) (Or.inl ⟨by rfl, ?_⟩) K1 ?_
  · rintro W ⟨g0, g1, g2, g3⟩
    go_simp
  (try simp only [Act.put, List.setIfInBounds_toArray, List.set_cons_zero, List.set_cons_succ])
  refine wpAnyM.take' (i := 3) (v := .int .i64 l.length) (some 13) rfl rfl (by kernel_rfl) (by kernel_rfl) (by kernel_rfl) (by kernel_rfl) (fun _ _ _ h => h) (Or.inl ⟨by rfl, ?_⟩) K1 ?_
  · rintro W ⟨g0, g1, g2, g3⟩
    go_simp
  (try simp only [Act.put, List.setIfInBounds_toArray, List.set_cons_zero, List.set_cons_succ])
  refine wpAnyM.take' (i := 4) (v := .bool true) (some 14) rfl rfl (by kernel_rfl) (by kernel_rfl) (by kernel_rfl) (by kernel_rfl) (fun _ _ _ h => h) (Or.inl ⟨by rfl, ?_⟩) K1 ?_
  · rintro W ⟨g0, g1, g2, g3⟩
    go_simp
  (try simp only [Act.put, List.setIfInBounds_toArray, List.set_cons_zero, List.set_cons_succ])
  refine wpAnyM.take' (i := 5) (v := .bool true) (some 15) rfl rfl (by kernel_rfl) (by kernel_rfl) (by kernel_rfl) (by kernel_rfl) (fun _ _ _ h => h) (Or.inl ⟨by rfl, ?_⟩) K1 ?_
  · rintro W ⟨g0, g1, g2, g3⟩
    go_simp
  (try simp only [Act.put, List.setIfInBounds_toArray, List.set_cons_zero, List.set_cons_succ])
  refine wpAnyM.take' (i := 6) (v := .slice (some ⟨b, off, none⟩) l.length cap) (some 16) rfl rfl (by kernel_rfl) (by kernel_rfl) (by kernel_rfl) (by kernel_rfl) (fun _ _ _ h => h) (Or.inl ⟨by rfl, ?_⟩) K1 ?_
  · rintro W ⟨g0, g1, g2, g3⟩
    go_simp
  (try simp only [Act.put, List.setIfInBounds_toArray, List.set_cons_zero, List.set_cons_succ])
  refine wpAnyM.take' (i := 7) (v := .string ⟨l.toArray⟩) (some 17) rfl rfl (by kernel_rfl) (by kernel_rfl) (by kernel_rfl) (by kernel_rfl) (fun _ _ _ h => h) (Or.inl ⟨by rfl, ?_⟩) K1 ?_
  · rintro W ⟨g0, g1, g2, g3⟩
    go_simp
  (try simp only [Act.put, List.setIfInBounds_toArray, List.set_cons_zero, List.set_cons_succ])
  refine wpAnyM.take' (i := 8) (v := .slice va l.length vc) (some 18) rfl rfl (by kernel_rfl) (by kernel_rfl) (by kernel_rfl) (by kernel_rfl) (fun _ _ _ h => h) (Or.inl ⟨by rfl, ?_⟩) K1 ?_
  · rintro W ⟨g0, g1, g2, g3⟩
    go_simp
  (try simp only [Act.put, List.setIfInBounds_toArray, List.set_cons_zero, List.set_cons_succ])
  refine wpAnyM.take' (i := 9) (v := .string ⟨l.toArray⟩) (some 19) rfl rfl (by kernel_rfl) (by kernel_rfl) (by kernel_rfl) (by kernel_rfl) (fun _ _ _ h => h) (Or.inl ⟨by rfl, ?_⟩) K1 ?_
  · rintro W ⟨g0, g1, g2, g3⟩
    go_simp
  (try simp only [Act.put, List.setIfInBounds_toArray, List.set_cons_zero, List.set_cons_succ])
  refine wpAnyM.take' (i := 10) (v := .bool true) (some 20) rfl rfl (by kernel_rfl) (by kernel_rfl) (by kernel_rfl) (by kernel_rfl) (fun _ _ _ h => h) (Or.inl ⟨by rfl, ?_⟩) K1 ?_
  · rintro W ⟨g0, g1, g2, g3⟩
    go_simp
  (try simp only [Act.put, List.setIfInBounds_toArray, List.set_cons_zero, List.set_cons_succ])
  refine wpAnyM.take' (i := 11) (v := .bool true) (some 21) rfl rfl (by kernel_rfl) (by kernel_rfl) (by kernel_rfl) (by kernel_rfl) (fun _ _ _ h => h) (Or.inl ⟨by rfl, ?_⟩) K1 ?_
  · rintro W ⟨g0, g1, g2, g3⟩
    go_simp
  (try simp only [Act.put, List.setIfInBounds_toArray, List.set_cons_zero, List.set_cons_succ])
  refine wpAnyM.take' (i := 12) (v := .bool true) (some 22) rfl rfl (by kernel_rfl) (by kernel_rfl) (by kernel_rfl) (by kernel_rfl) (fun _ _ _ h => h) (Or.inl ⟨by rfl, ?_⟩) K1 ?_
  · rintro W ⟨g0, g1, g2, g3⟩
    go_simp
  (try simp only [Act.put, List.setIfInBounds_toArray, List.set_cons_zero, List.set_cons_succ])
  refine wpAnyM.take' (i := 13) (v := .slice (some ⟨b, off, none⟩) cap cap) (some 23) rfl rfl (by kernel_rfl) (by kernel_rfl) (by kernel_rfl) (by kernel_rfl) (fun _ _ _ h => h) (Or.inl ⟨by rfl, ?_⟩) K1 ?_
  · rintro W ⟨g0, g1, g2, g3⟩
    go_simp
  (try simp only [Act.put, List.setIfInBounds_toArray, List.set_cons_zero, List.set_cons_succ])
  refine wpAnyM.take' (i := 14) (v := .int .i64 cap) (some 24) rfl rfl (by kernel_rfl) (by kernel_rfl) (by kernel_rfl) (by kernel_rfl) (fun _ _ _ h => h) (Or.inl ⟨by rfl, ?_⟩) K1 ?_
  · rintro W ⟨g0, g1, g2, g3⟩
    go_simp
  (try simp only [Act.put, List.setIfInBounds_toArray, List.set_cons_zero, List.set_cons_succ])
  refine wpAnyM.take' (i := 15) (v := .slice va l.length vc) (some 25) rfl rfl (by kernel_rfl) (by kernel_rfl) (by kernel_rfl) (by kernel_rfl) (fun _ _ _ h => h) (Or.inl ⟨by rfl, ?_⟩) K1 ?_
  · rintro W ⟨g0, g1, g2, g3⟩
    go_simp
  (try simp only [Act.put, List.setIfInBounds_toArray, List.set_cons_zero, List.set_cons_succ])
  refine wpAnyM.take' (i := 16) (v := .int .i64 l.length) (some 26) rfl rfl (by kernel_rfl) (by kernel_rfl) (by kernel_rfl) (by kernel_rfl) (fun _ _ _ h => h) (Or.inl ⟨by rfl, ?_⟩) K1 ?_
  · rintro W ⟨g0, g1, g2, g3⟩
    go_simp
  (try simp only [Act.put, List.setIfInBounds_toArray, List.set_cons_zero, List.set_cons_succ])
  refine wpAnyM.take' (i := 17) (v := .int .i64 n4) (some 27) rfl rfl (by kernel_rfl) (by kernel_rfl) (by kernel_rfl) (by kernel_rfl) (fun _ _ _ h => h) (Or.inl ⟨by rfl, ?_⟩) K1 ?_
  · rintro W ⟨g0, g1, g2, g3⟩
    go_simp
  (try simp only [Act.put, List.setIfInBounds_toArray, List.set_cons_zero, List.set_cons_succ])
  refine wpAnyM.take' (i := 18) (v := .bool true) (some 28) rfl rfl (by kernel_rfl) (by kernel_rfl) (by kernel_rfl) (by kernel_rfl) (fun _ _ _ h => h) (Or.inl ⟨by rfl, ?_⟩) K1 ?_
  · rintro W ⟨g0, g1, g2, g3⟩
    go_simp
  (try simp only [Act.put, List.setIfInBounds_toArray, List.set_cons_zero, List.set_cons_succ])
  refine wpAnyM.take' (i := 19) (v := .bool true) (some 29) rfl rfl (by kernel_rfl) (by kernel_rfl) (by kernel_rfl) (by kernel_rfl) (fun _ _ _ h => h) (Or.inl ⟨by rfl, ?_⟩) K1 ?_
  · rintro W ⟨g0, g1, g2, g3⟩
    go_simp
  (try simp only [Act.put, List.setIfInBounds_toArray, List.set_cons_zero, List.set_cons_succ])
  refine wpAnyM.take' (i := 20) (v := .bool true) (some 30) rfl rfl (by kernel_rfl) (by kernel_rfl) (by kernel_rfl) (by kernel_rfl) (fun _ _ _ h => h) (Or.inl ⟨by rfl, ?_⟩) K1 ?_
  · rintro W ⟨g0, g1, g2, g3⟩
    go_simp
  (try simp only [Act.put, List.setIfInBounds_toArray, List.set_cons_zero, List.set_cons_succ])
  refine wpAnyM.take' (i := 21) (v := .slice (some ⟨b, off, none⟩) cap cap) (some 31) rfl rfl (by kernel_rfl) (by kernel_rfl) (by kernel_rfl) (by kernel_rfl) (fun _ _ _ h => h) (Or.inl ⟨by rfl, ?_⟩) K1 ?_
  · rintro W ⟨g0, g1, g2, g3⟩
    go_simp
  (try simp only [Act.put, List.setIfInBounds_toArray, List.set_cons_zero, List.set_cons_succ])
  refine wpAnyM.take' (i := 22) (v := .slice va l.length vc) (some 32) rfl rfl (by kernel_rfl) (by kernel_rfl) (by kernel_rfl) (by kernel_rfl) (fun _ _ _ h => h) (Or.inl ⟨by rfl, ?_⟩) K1 ?_
  · rintro W ⟨g0, g1, g2, g3⟩
    go_simp
  (try simp only [Act.put, List.setIfInBounds_toArray, List.set_cons_zero, List.set_cons_succ])
  refine wpAnyM.take' (i := 23) (v := .int .i64 l.length) (some 33) rfl rfl (by kernel_rfl) (by kernel_rfl) (by kernel_rfl) (by kernel_rfl) (fun _ _ _ h => h) (Or.inl ⟨by rfl, ?_⟩) K1 ?_
  · rintro W ⟨g0, g1, g2, g3⟩
    go_simp
  (try simp only [Act.put, List.setIfInBounds_toArray, List.set_cons_zero, List.set_cons_succ])
  refine wpAnyM.take' (i := 24) (v := .slice va l.length vc) (some 34) rfl rfl (by kernel_rfl) (by kernel_rfl) (by kernel_rfl) (by kernel_rfl) (fun _ _ _ h => h) (Or.inl ⟨by rfl, ?_⟩) K1 ?_
  · rintro W ⟨g0, g1, g2, g3⟩
    go_simp
  (try simp only [Act.put, List.setIfInBounds_toArray, List.set_cons_zero, List.set_cons_succ])
  refine wpAnyM.take' (i := 25) (v := .int .i64 l.length) (some 35) rfl rfl (by kernel_rfl) (by kernel_rfl) (by kernel_rfl) (by kernel_rfl) (fun _ _ _ h => h) (Or.inl ⟨by rfl, ?_⟩) K1 ?_
  · rintro W ⟨g0, g1, g2, g3⟩
    go_simp
  (try simp only [Act.put, List.setIfInBounds_toArray, List.set_cons_zero, List.set_cons_succ])
  refine wpAnyM.take' (i := 26) (v := .int .i64 n4) (some 36) rfl rfl (by kernel_rfl) (by kernel_rfl) (by kernel_rfl) (by kernel_rfl) (fun _ _ _ h => h) (Or.inl ⟨by rfl, ?_⟩) K1 ?_
  · rintro W ⟨g0, g1, g2, g3⟩
    go_simp
  (try simp only [Act.put, List.setIfInBounds_toArray, List.set_cons_zero, List.set_cons_succ])
  refine wpAnyM.take' (i := 27) (v := .slice (some ⟨b, off + l.length, none⟩) (n4 - l.length) (cap - l.length)) (some 37) rfl rfl (by kernel_rfl) (by kernel_rfl) (by kernel_rfl) (by kernel_rfl) (fun _ _ _ h => h) (Or.inl ⟨by rfl, ?_⟩) K1 ?_
  · rintro W ⟨g0, g1, g2, g3⟩
    go_simp
  (try simp only [Act.put, List.setIfInBounds_toArray, List.set_cons_zero, List.set_cons_succ])
  refine wpAnyM.take' (i := 28) (v := .string ⟨four.toArray⟩) (some 38) rfl rfl (by kernel_rfl) (by kernel_rfl) (by kernel_rfl) (by kernel_rfl) (fun _ _ _ h => h) (Or.inl ⟨by rfl, ?_⟩) K1 ?_
  · rintro W ⟨g0, g1, g2, g3⟩
    go_simp
  (try simp only [Act.put, List.setIfInBounds_toArray, List.set_cons_zero, List.set_cons_succ])
  refine wpAnyM.one (i := 29) (by kernel_rfl) rfl (fun K hK => ?_)
  go_simp
  refine hK.out _ _ (fun h => K2) ?_
  clear hK
  (try simp only [Act.put, List.setIfInBounds_toArray, List.set_cons_zero, List.set_cons_succ])
  refine wpAnyM.one (i := 30) (by kernel_rfl) rfl (fun K hK => ?_)
  go_simp
  refine hK.out _ _ (fun h => K2) ?_
  clear hK
  (try simp only [Act.put, List.setIfInBounds_toArray, List.set_cons_zero, List.set_cons_succ])
  refine wpAnyM.one (i := 31) (by kernel_rfl) rfl (fun K hK => ?_)
  go_simp
  refine hK.out _ _ (fun h => K2) ?_
  clear hK
  (try simp only [Act.put, List.setIfInBounds_toArray, List.set_cons_zero, List.set_cons_succ])
  refine wpAnyM.one (i := 32) (by kernel_rfl) rfl (fun K hK => ?_)
  go_simp
  refine hK.out _ _ (fun h => K2) ?_
  clear hK
  (try simp only [Act.put, List.setIfInBounds_toArray, List.set_cons_zero, List.set_cons_succ])
  refine wpAnyM.one (i := 33) (by kernel_rfl) rfl (fun K hK => ?_)
  go_simp
  refine hK.out _ _ (fun h => K2) ?_
  clear hK
  (try simp only [Act.put, List.setIfInBounds_toArray, List.set_cons_zero, List.set_cons_succ])
  refine wpAnyM.done (by kernel_rfl) ?_ _
  have OK := Lib.hid K2.1.out
  clear K1 K2
  go_wp2_with (fail)
  go_ret
  exact ⟨rfl, OK.out.1, OK.out.2⟩
end Go.Proofs.Ytcagfdmafelbkaa
