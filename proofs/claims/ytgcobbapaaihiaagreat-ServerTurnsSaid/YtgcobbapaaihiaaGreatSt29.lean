/- ServerTurns, part 29: lemmas, each with its own conditions. -/
import Derived.Test.YtgcobbapaaihiaaGreatSt28
set_option linter.unusedVariables false
set_option linter.unusedSimpArgs false
namespace Go.Proofs.YtgcobbapaaihiaaGreat
open Go.RowKit

section
variable {c : Col} {w : World}

set_option maxRecDepth 100000 in
set_option maxHeartbeats 800000 in
theorem hash1_any (hok : Ok c w) {k p b : Nat} {bs : List UInt8} {a : Nat} {f : Int × Int} (h : IsRd c k w p bs a f) (hk0 : k ≠ 0) (hn : a + 32 ≤ bs.length) (hc : w.cell? ⟨b, 0, none⟩ = some (.pointer (some ⟨p, 0, none⟩))) (hbl : b < w.heap.size) (at0 : Int) :
    Calls Tryz.prog 167 #[.int .i64 at0, .pointer (some ⟨b, 0, none⟩)] w fun r w' => r = .returned (.agg (bC ((bs.drop a).take 32)).toArray) ∧
      ∃ c', IsRd c' k w' p bs (a + 32) f ∧ Step (One k) c w c' w' ∧ Ok c' w' := by
  obtain ⟨q, hq, hqc⟩ := hok.spare k
  have hq0 : q ≠ 0 := by omega
  obtain ⟨a0, ok0, s00⟩ := newAt hok (bC (List.replicate 32 0)) 51 q
  have h0 := h.kn s00
  rw [show (bC (List.replicate 32 0)).toArray = #[.int .u8 0, .int .u8 0, .int .u8 0, .int .u8 0, .int .u8 0, .int .u8 0, .int .u8 0, .int .u8 0, .int .u8 0, .int .u8 0, .int .u8 0, .int .u8 0, .int .u8 0, .int .u8 0, .int .u8 0, .int .u8 0, .int .u8 0, .int .u8 0, .int .u8 0, .int .u8 0, .int .u8 0, .int .u8 0, .int .u8 0, .int .u8 0, .int .u8 0, .int .u8 0, .int .u8 0, .int .u8 0, .int .u8 0, .int .u8 0, .int .u8 0, .int .u8 0] from rfl] at a0 ok0 s00 h0
  obtain ⟨w0, hw0⟩ : ∃ w0, w.alloc (.cells #[.int .u8 0, .int .u8 0, .int .u8 0, .int .u8 0, .int .u8 0, .int .u8 0, .int .u8 0, .int .u8 0, .int .u8 0, .int .u8 0, .int .u8 0, .int .u8 0, .int .u8 0, .int .u8 0, .int .u8 0, .int .u8 0, .int .u8 0, .int .u8 0, .int .u8 0, .int .u8 0, .int .u8 0, .int .u8 0, .int .u8 0, .int .u8 0, .int .u8 0, .int .u8 0, .int .u8 0, .int .u8 0, .int .u8 0, .int .u8 0, .int .u8 0, .int .u8 0] 51) = w0 := ⟨_, rfl⟩
  obtain ⟨c0, hc0⟩ : ∃ c0, c.put w.heap.size q = c0 := ⟨_, rfl⟩
  obtain ⟨b0, hbe⟩ : ∃ b0, w.heap.size = b0 := ⟨_, rfl⟩
  have hb0 : w.heap.size ≤ b0 := by omega
  rw [hw0, hc0] at a0 ok0 s00 h0
  rw [hbe] at a0
  have S00 := Lib.hid s00
  have HBE := Lib.hid hbe
  obtain ⟨B, hB⟩ : ∃ B, bC ((bs.drop a).take 32) = B := ⟨_, rfl⟩
  have HB := Lib.hid (And.intro hB (And.intro (show ∀ v ∈ B, v.oneCell' = true by rw [← hB]; exact bC_one _) (show B.length = 32 by rw [← hB, bC_len, List.length_take, List.length_drop]; omega)))
  have z1 := (s00.cell (o := 0) hbl (fun h => h)).trans hc
  have T : Calls Tryz.prog 168 #[.pointer (some ⟨p, 0, none⟩), .int .i64 32, .int .i64 at0, .func (.func 169) #[] #[]] w0 fun r w' => r = .returned (.agg (bC ((bs.drop a).take 32)).toArray) ∧ ∃ c', IsRd c' k w' p bs (a + 32) f ∧ Step (One k) c0 w0 c' w' ∧ Ok c' w' :=
    take_hash ok0 h0 hk0 32 hn rfl at0
  rw [hB] at T
  have A0 := Lib.hid a0
  clear h hok s00 a0 h0 ok0 hB hn hqc hc0 hc
  go_enter Tryz.func167, Tryz.ntmps167
  go_wp2_with fail
  with_reducible refine T.mono ?_
  rintro e w1 ⟨rfl, c1, i1, s1, o1⟩
  have a1 := A0.out.keep s1 (show ¬ q = k by omega)
  clear z1 T
  have hi0 : (Tryz.prog.info? 51).map (·.size) = some B.length := by rw [info_hash, HB.out.2.2]
  have hi1 : (Tryz.prog.info? 51).map (·.size) = some B.toArray.size := by rw [info_hash]; simp [HB.out.2.2]
  have ht0 := a1.there (o := 0) (n := B.toArray.size) o1 hq0 (by simp [bC_len, HB.out.2.2])
  obtain ⟨S0, a2⟩ := a1.st o1 hq0 (ty := 51) (us := B) (by simp [bC_len, HB.out.2.2]) hi0 HB.out.2.1
  have s3 : Step (One q) c1 w1 c1 (w1.setCells b0 0 B) := Step.setCells (.inr a1.col) _ _ _ Step.refl
  have HX := Lib.hid (And.intro a2 (And.intro ht0 (And.intro hi1 (And.intro (all_oneCell_toArray HB.out.2.1) (And.intro hi0 (And.intro (i1.keep s3 (show ¬ k = q by omega) (show ¬ 0 = q by omega)) (And.intro (Step.setCells (.inl hb0) B 0 _ (S00.out.ofNo.trans s1)) (Ok.setCells (b := b0) B 0 _ o1))))))))
  clear a1 i1 s1 o1 hi0 hi1 ht0 S0 a2 s3
  go_wp2_with (first | (refine wpList_store_mid rfl 51 _ _ rfl b0 0 B.toArray rfl rfl HX.out.2.1 HX.out.2.2.1 HX.out.2.2.2.1 ?_))
  refine bodyPost_ret (results_cell_mid rfl _ _ b0 0 B _ rfl HX.out.1.cells Tryz.underlying51 rfl HX.out.2.2.2.2.1) rfl ⟨by rw [← HB.out.1], c1, HX.out.2.2.2.2.2.1, HX.out.2.2.2.2.2.2.1, HX.out.2.2.2.2.2.2.2⟩

set_option maxRecDepth 100000 in
set_option maxHeartbeats 800000 in
theorem readsHash (hok : Ok c w) {k p b : Nat} {bs : List UInt8} {a : Nat} {f : Int} (h : IsRd c k w p bs a (0, f)) (hk0 : k ≠ 0) (hn : a + 32 ≤ bs.length) (hc : w.cell? ⟨b, 0, none⟩ = some (.pointer (some ⟨p, 0, none⟩))) (hbl : b < w.heap.size) :
    Calls Tryz.prog 166 #[.pointer (some ⟨p, 0, none⟩), .func (.func 167) #[] #[.pointer (some ⟨b, 0, none⟩)]] w fun r w' => r = .returned (.agg (bC ((bs.drop a).take 32)).toArray) ∧
      ∃ c', IsRd c' k w' p bs (a + 32) (0, f) ∧ Step (One k) c w c' w' ∧ Ok c' w' := by
  obtain ⟨q, hq, hqc⟩ := hok.spare k
  have hq0 : q ≠ 0 := by omega
  obtain ⟨a0, ok0, s00⟩ := newAt hok (bC (List.replicate 32 0)) 51 q
  have h0 := h.kn s00
  rw [show (bC (List.replicate 32 0)).toArray = #[.int .u8 0, .int .u8 0, .int .u8 0, .int .u8 0, .int .u8 0, .int .u8 0, .int .u8 0, .int .u8 0, .int .u8 0, .int .u8 0, .int .u8 0, .int .u8 0, .int .u8 0, .int .u8 0, .int .u8 0, .int .u8 0, .int .u8 0, .int .u8 0, .int .u8 0, .int .u8 0, .int .u8 0, .int .u8 0, .int .u8 0, .int .u8 0, .int .u8 0, .int .u8 0, .int .u8 0, .int .u8 0, .int .u8 0, .int .u8 0, .int .u8 0, .int .u8 0] from rfl] at a0 ok0 s00 h0
  obtain ⟨w0, hw0⟩ : ∃ w0, w.alloc (.cells #[.int .u8 0, .int .u8 0, .int .u8 0, .int .u8 0, .int .u8 0, .int .u8 0, .int .u8 0, .int .u8 0, .int .u8 0, .int .u8 0, .int .u8 0, .int .u8 0, .int .u8 0, .int .u8 0, .int .u8 0, .int .u8 0, .int .u8 0, .int .u8 0, .int .u8 0, .int .u8 0, .int .u8 0, .int .u8 0, .int .u8 0, .int .u8 0, .int .u8 0, .int .u8 0, .int .u8 0, .int .u8 0, .int .u8 0, .int .u8 0, .int .u8 0, .int .u8 0] 51) = w0 := ⟨_, rfl⟩
  obtain ⟨c0, hc0⟩ : ∃ c0, c.put w.heap.size q = c0 := ⟨_, rfl⟩
  obtain ⟨b0, hbe⟩ : ∃ b0, w.heap.size = b0 := ⟨_, rfl⟩
  have hb0 : w.heap.size ≤ b0 := by omega
  rw [hw0, hc0] at a0 ok0 s00 h0
  rw [hbe] at a0
  have S00 := Lib.hid s00
  have HBE := Lib.hid hbe
  obtain ⟨B, hB⟩ : ∃ B, bC ((bs.drop a).take 32) = B := ⟨_, rfl⟩
  have HB := Lib.hid (And.intro hB (And.intro (show ∀ v ∈ B, v.oneCell' = true by rw [← hB]; exact bC_one _) (show B.length = 32 by rw [← hB, bC_len, List.length_take, List.length_drop]; omega)))
  have z1 := (s00.cell (o := 0) hbl (fun h => h)).trans hc
  have T := hash1_any ok0 h0 hk0 hn z1 (Nat.lt_of_lt_of_le hbl s00.size) a
  rw [hB] at T
  obtain ⟨bv, x0, ow⟩ := h0.row
  have y1 := x0.get (i := 1) rfl
  have y2 := x0.get (i := 2) rfl
  have y4 := x0.get (i := 4) rfl
  have A0 := Lib.hid a0
  clear h hok s00 a0 h0 ok0 hB hn hqc hc0 hc x0 ow z1
  go_enter_defers Tryz.func166, Tryz.ntmps166
  go_wp2_with fail
  with_reducible refine T.mono ?_
  rintro e w1 ⟨rfl, c1, i1, s1, o1⟩
  have a1 := A0.out.keep s1 (show ¬ q = k by omega)
  clear T y1 y2 y4
  have hi0 : (Tryz.prog.info? 51).map (·.size) = some B.length := by rw [info_hash, HB.out.2.2]
  have hi1 : (Tryz.prog.info? 51).map (·.size) = some B.toArray.size := by rw [info_hash]; simp [HB.out.2.2]
  have ht0 := a1.there (o := 0) (n := B.toArray.size) o1 hq0 (by simp [bC_len, HB.out.2.2])
  obtain ⟨S0, a2⟩ := a1.st o1 hq0 (ty := 51) (us := B) (by simp [bC_len, HB.out.2.2]) hi0 HB.out.2.1
  have s3 : Step (One q) c1 w1 c1 (w1.setCells b0 0 B) := Step.setCells (.inr a1.col) _ _ _ Step.refl
  have HX := Lib.hid (And.intro a2 (And.intro ht0 (And.intro hi1 (And.intro (all_oneCell_toArray HB.out.2.1) (And.intro hi0 (And.intro (i1.keep s3 (show ¬ k = q by omega) (show ¬ 0 = q by omega)) (And.intro (Step.setCells (.inl hb0) B 0 _ (S00.out.ofNo.trans s1)) (Ok.setCells (b := b0) B 0 _ o1))))))))
  clear a1 i1 s1 o1 hi0 hi1 ht0 S0 a2 s3
  go_wp2_with (first | (refine wpList_store_mid rfl 51 _ _ rfl b0 0 B.toArray rfl rfl HX.out.2.1 HX.out.2.2.1 HX.out.2.2.2.1 ?_))
  refine leaves_cons (f := 134) (args := #[.pointer (some ⟨p, 0, none⟩)]) (by simp) (by simp [go_sem]) ?_
  refine (caught_idle p _).mono ?_
  rintro e u' w'' ⟨rfl, rfl, rfl⟩
  exact ⟨_, results_cell_mid rfl _ _ b0 0 B _ rfl HX.out.1.cells Tryz.underlying51 rfl HX.out.2.2.2.2.1, by rw [← HB.out.1], c1, HX.out.2.2.2.2.2.1, HX.out.2.2.2.2.2.2.1, HX.out.2.2.2.2.2.2.2⟩

set_option maxRecDepth 100000 in
set_option maxHeartbeats 800000 in
theorem key1_any (hok : Ok c w) {k p b : Nat} {bs : List UInt8} {a : Nat} {f : Int × Int} (h : IsRd c k w p bs a f) (hk0 : k ≠ 0) (hn : a + 4 ≤ bs.length) (hc : w.cell? ⟨b, 0, none⟩ = some (.pointer (some ⟨p, 0, none⟩))) (hbl : b < w.heap.size) (at0 : Int) :
    Calls Tryz.prog 175 #[.int .i64 at0, .pointer (some ⟨b, 0, none⟩)] w fun r w' => r = .returned (.agg (bC ((bs.drop a).take 4)).toArray) ∧
      ∃ c', IsRd c' k w' p bs (a + 4) f ∧ Step (One k) c w c' w' ∧ Ok c' w' := by
  obtain ⟨q, hq, hqc⟩ := hok.spare k
  have hq0 : q ≠ 0 := by omega
  obtain ⟨a0, ok0, s00⟩ := newAt hok (bC (List.replicate 4 0)) 91 q
  have h0 := h.kn s00
  rw [show (bC (List.replicate 4 0)).toArray = #[.int .u8 0, .int .u8 0, .int .u8 0, .int .u8 0] from rfl] at a0 ok0 s00 h0
  obtain ⟨w0, hw0⟩ : ∃ w0, w.alloc (.cells #[.int .u8 0, .int .u8 0, .int .u8 0, .int .u8 0] 91) = w0 := ⟨_, rfl⟩
  obtain ⟨c0, hc0⟩ : ∃ c0, c.put w.heap.size q = c0 := ⟨_, rfl⟩
  obtain ⟨b0, hbe⟩ : ∃ b0, w.heap.size = b0 := ⟨_, rfl⟩
  have hb0 : w.heap.size ≤ b0 := by omega
  rw [hw0, hc0] at a0 ok0 s00 h0
  rw [hbe] at a0
  have S00 := Lib.hid s00
  have HBE := Lib.hid hbe
  obtain ⟨B, hB⟩ : ∃ B, bC ((bs.drop a).take 4) = B := ⟨_, rfl⟩
  have HB := Lib.hid (And.intro hB (And.intro (show ∀ v ∈ B, v.oneCell' = true by rw [← hB]; exact bC_one _) (show B.length = 4 by rw [← hB, bC_len, List.length_take, List.length_drop]; omega)))
  have z1 := (s00.cell (o := 0) hbl (fun h => h)).trans hc
  have T : Calls Tryz.prog 176 #[.pointer (some ⟨p, 0, none⟩), .int .i64 4, .int .i64 at0, .func (.func 177) #[] #[]] w0 fun r w' => r = .returned (.agg (bC ((bs.drop a).take 4)).toArray) ∧ ∃ c', IsRd c' k w' p bs (a + 4) f ∧ Step (One k) c0 w0 c' w' ∧ Ok c' w' :=
    take_key ok0 h0 hk0 4 hn rfl at0
  rw [hB] at T
  have A0 := Lib.hid a0
  clear h hok s00 a0 h0 ok0 hB hn hqc hc0 hc
  go_enter Tryz.func175, Tryz.ntmps175
  go_wp2_with fail
  with_reducible refine T.mono ?_
  rintro e w1 ⟨rfl, c1, i1, s1, o1⟩
  have a1 := A0.out.keep s1 (show ¬ q = k by omega)
  clear z1 T
  have hi0 : (Tryz.prog.info? 91).map (·.size) = some B.length := by rw [info_key, HB.out.2.2]
  have hi1 : (Tryz.prog.info? 91).map (·.size) = some B.toArray.size := by rw [info_key]; simp [HB.out.2.2]
  have ht0 := a1.there (o := 0) (n := B.toArray.size) o1 hq0 (by simp [bC_len, HB.out.2.2])
  obtain ⟨S0, a2⟩ := a1.st o1 hq0 (ty := 91) (us := B) (by simp [bC_len, HB.out.2.2]) hi0 HB.out.2.1
  have s3 : Step (One q) c1 w1 c1 (w1.setCells b0 0 B) := Step.setCells (.inr a1.col) _ _ _ Step.refl
  have HX := Lib.hid (And.intro a2 (And.intro ht0 (And.intro hi1 (And.intro (all_oneCell_toArray HB.out.2.1) (And.intro hi0 (And.intro (i1.keep s3 (show ¬ k = q by omega) (show ¬ 0 = q by omega)) (And.intro (Step.setCells (.inl hb0) B 0 _ (S00.out.ofNo.trans s1)) (Ok.setCells (b := b0) B 0 _ o1))))))))
  clear a1 i1 s1 o1 hi0 hi1 ht0 S0 a2 s3
  go_wp2_with (first | (refine wpList_store_mid rfl 91 _ _ rfl b0 0 B.toArray rfl rfl HX.out.2.1 HX.out.2.2.1 HX.out.2.2.2.1 ?_))
  refine bodyPost_ret (results_cell_mid rfl _ _ b0 0 B _ rfl HX.out.1.cells Tryz.underlying91 rfl HX.out.2.2.2.2.1) rfl ⟨by rw [← HB.out.1], c1, HX.out.2.2.2.2.2.1, HX.out.2.2.2.2.2.2.1, HX.out.2.2.2.2.2.2.2⟩

set_option maxRecDepth 100000 in
set_option maxHeartbeats 800000 in
theorem readsKey (hok : Ok c w) {k p b : Nat} {bs : List UInt8} {a : Nat} {f : Int} (h : IsRd c k w p bs a (0, f)) (hk0 : k ≠ 0) (hn : a + 4 ≤ bs.length) (hc : w.cell? ⟨b, 0, none⟩ = some (.pointer (some ⟨p, 0, none⟩))) (hbl : b < w.heap.size) :
    Calls Tryz.prog 174 #[.pointer (some ⟨p, 0, none⟩), .func (.func 175) #[] #[.pointer (some ⟨b, 0, none⟩)]] w fun r w' => r = .returned (.agg (bC ((bs.drop a).take 4)).toArray) ∧
      ∃ c', IsRd c' k w' p bs (a + 4) (0, f) ∧ Step (One k) c w c' w' ∧ Ok c' w' := by
  obtain ⟨q, hq, hqc⟩ := hok.spare k
  have hq0 : q ≠ 0 := by omega
  obtain ⟨a0, ok0, s00⟩ := newAt hok (bC (List.replicate 4 0)) 91 q
  have h0 := h.kn s00
  rw [show (bC (List.replicate 4 0)).toArray = #[.int .u8 0, .int .u8 0, .int .u8 0, .int .u8 0] from rfl] at a0 ok0 s00 h0
  obtain ⟨w0, hw0⟩ : ∃ w0, w.alloc (.cells #[.int .u8 0, .int .u8 0, .int .u8 0, .int .u8 0] 91) = w0 := ⟨_, rfl⟩
  obtain ⟨c0, hc0⟩ : ∃ c0, c.put w.heap.size q = c0 := ⟨_, rfl⟩
  obtain ⟨b0, hbe⟩ : ∃ b0, w.heap.size = b0 := ⟨_, rfl⟩
  have hb0 : w.heap.size ≤ b0 := by omega
  rw [hw0, hc0] at a0 ok0 s00 h0
  rw [hbe] at a0
  have S00 := Lib.hid s00
  have HBE := Lib.hid hbe
  obtain ⟨B, hB⟩ : ∃ B, bC ((bs.drop a).take 4) = B := ⟨_, rfl⟩
  have HB := Lib.hid (And.intro hB (And.intro (show ∀ v ∈ B, v.oneCell' = true by rw [← hB]; exact bC_one _) (show B.length = 4 by rw [← hB, bC_len, List.length_take, List.length_drop]; omega)))
  have z1 := (s00.cell (o := 0) hbl (fun h => h)).trans hc
  have T := key1_any ok0 h0 hk0 hn z1 (Nat.lt_of_lt_of_le hbl s00.size) a
  rw [hB] at T
  obtain ⟨bv, x0, ow⟩ := h0.row
  have y1 := x0.get (i := 1) rfl
  have y2 := x0.get (i := 2) rfl
  have y4 := x0.get (i := 4) rfl
  have A0 := Lib.hid a0
  clear h hok s00 a0 h0 ok0 hB hn hqc hc0 hc x0 ow z1
  go_enter_defers Tryz.func174, Tryz.ntmps174
  go_wp2_with fail
  with_reducible refine T.mono ?_
  rintro e w1 ⟨rfl, c1, i1, s1, o1⟩
  have a1 := A0.out.keep s1 (show ¬ q = k by omega)
  clear T y1 y2 y4
  have hi0 : (Tryz.prog.info? 91).map (·.size) = some B.length := by rw [info_key, HB.out.2.2]
  have hi1 : (Tryz.prog.info? 91).map (·.size) = some B.toArray.size := by rw [info_key]; simp [HB.out.2.2]
  have ht0 := a1.there (o := 0) (n := B.toArray.size) o1 hq0 (by simp [bC_len, HB.out.2.2])
  obtain ⟨S0, a2⟩ := a1.st o1 hq0 (ty := 91) (us := B) (by simp [bC_len, HB.out.2.2]) hi0 HB.out.2.1
  have s3 : Step (One q) c1 w1 c1 (w1.setCells b0 0 B) := Step.setCells (.inr a1.col) _ _ _ Step.refl
  have HX := Lib.hid (And.intro a2 (And.intro ht0 (And.intro hi1 (And.intro (all_oneCell_toArray HB.out.2.1) (And.intro hi0 (And.intro (i1.keep s3 (show ¬ k = q by omega) (show ¬ 0 = q by omega)) (And.intro (Step.setCells (.inl hb0) B 0 _ (S00.out.ofNo.trans s1)) (Ok.setCells (b := b0) B 0 _ o1))))))))
  clear a1 i1 s1 o1 hi0 hi1 ht0 S0 a2 s3
  go_wp2_with (first | (refine wpList_store_mid rfl 91 _ _ rfl b0 0 B.toArray rfl rfl HX.out.2.1 HX.out.2.2.1 HX.out.2.2.2.1 ?_))
  refine leaves_cons (f := 134) (args := #[.pointer (some ⟨p, 0, none⟩)]) (by simp) (by simp [go_sem]) ?_
  refine (caught_idle p _).mono ?_
  rintro e u' w'' ⟨rfl, rfl, rfl⟩
  exact ⟨_, results_cell_mid rfl _ _ b0 0 B _ rfl HX.out.1.cells Tryz.underlying91 rfl HX.out.2.2.2.2.1, by rw [← HB.out.1], c1, HX.out.2.2.2.2.2.1, HX.out.2.2.2.2.2.2.1, HX.out.2.2.2.2.2.2.2⟩
end
end Go.Proofs.YtgcobbapaaihiaaGreat

set_option linter.unusedVariables false
set_option linter.unusedSimpArgs false
namespace Go.Proofs.YtgcobbapaaihiaaGreat
open Go.RowKit

section
variable {c : Col} {w : World}

set_option maxRecDepth 100000 in
set_option maxHeartbeats 800000 in
theorem RHash_any (hok : Ok c w) {k p : Nat} {bs : List UInt8} {a : Nat} {f : Int} (h : IsRd c k w p bs a (0, f)) (hk0 : k ≠ 0) (hn : a + 32 ≤ bs.length) :
    Calls Tryz.prog 140 #[.pointer (some ⟨p, 0, none⟩)] w fun r w' => r = .returned (.agg (bC ((bs.drop a).take 32)).toArray) ∧
      ∃ c', IsRd c' k w' p bs (a + 32) (0, f) ∧ Step (One k) c w c' w' ∧ Ok c' w' := by
  have sp : Step No c w c (w.alloc (.cells #[.pointer (some ⟨p, 0, none⟩)] 112)) := Step.refl.alloc _
  have ap := At.new0 hok [.pointer (some ⟨p, 0, none⟩)] 112
  have op := hok.alloc (.cells #[.pointer (some ⟨p, 0, none⟩)] 112)
  obtain ⟨q, hq, hqc⟩ := op.spare k
  have hq0 : q ≠ 0 := by omega
  obtain ⟨a0, ok0, s00⟩ := newAt op (bC (List.replicate 32 0)) 51 q
  have h0 := (h.kn sp).kn s00
  have ap0 := ap.keep s00 (fun h => h)
  rw [show (bC (List.replicate 32 0)).toArray = #[.int .u8 0, .int .u8 0, .int .u8 0, .int .u8 0, .int .u8 0, .int .u8 0, .int .u8 0, .int .u8 0, .int .u8 0, .int .u8 0, .int .u8 0, .int .u8 0, .int .u8 0, .int .u8 0, .int .u8 0, .int .u8 0, .int .u8 0, .int .u8 0, .int .u8 0, .int .u8 0, .int .u8 0, .int .u8 0, .int .u8 0, .int .u8 0, .int .u8 0, .int .u8 0, .int .u8 0, .int .u8 0, .int .u8 0, .int .u8 0, .int .u8 0, .int .u8 0] from rfl] at a0 ok0 s00 h0 ap0
  obtain ⟨w0, hw0⟩ : ∃ w0, (w.alloc (.cells #[.pointer (some ⟨p, 0, none⟩)] 112)).alloc (.cells #[.int .u8 0, .int .u8 0, .int .u8 0, .int .u8 0, .int .u8 0, .int .u8 0, .int .u8 0, .int .u8 0, .int .u8 0, .int .u8 0, .int .u8 0, .int .u8 0, .int .u8 0, .int .u8 0, .int .u8 0, .int .u8 0, .int .u8 0, .int .u8 0, .int .u8 0, .int .u8 0, .int .u8 0, .int .u8 0, .int .u8 0, .int .u8 0, .int .u8 0, .int .u8 0, .int .u8 0, .int .u8 0, .int .u8 0, .int .u8 0, .int .u8 0, .int .u8 0] 51) = w0 := ⟨_, rfl⟩
  obtain ⟨c0, hc0⟩ : ∃ c0, c.put (w.alloc (.cells #[.pointer (some ⟨p, 0, none⟩)] 112)).heap.size q = c0 := ⟨_, rfl⟩
  rw [hw0, hc0] at a0 ok0 s00 h0 ap0
  rw [World.size_alloc] at a0
  obtain ⟨b0, hbe⟩ : ∃ b0, w.heap.size + 1 = b0 := ⟨_, rfl⟩
  have hb0 : w.heap.size ≤ b0 := by omega
  rw [hbe] at a0
  have S00 := Lib.hid (sp.trans s00)
  obtain ⟨B, hB⟩ : ∃ B, bC ((bs.drop a).take 32) = B := ⟨_, rfl⟩
  have HB := Lib.hid (And.intro hB (And.intro (show ∀ v ∈ B, v.oneCell' = true by rw [← hB]; exact bC_one _) (show B.length = 32 by rw [← hB, bC_len, List.length_take, List.length_drop]; omega)))
  have T := readsHash ok0 h0 hk0 hn ap0.c0 ap0.lt
  rw [hB] at T
  have A0 := Lib.hid a0
  have z1 := ap0.c0
  have hmf : ∀ (fn : Fn) (first cap : Array Value) (w : World), (Instr.makeFunc fn first cap).run Tryz.prog w = .ok (.func fn first cap) w := fun _ _ _ _ => rfl
  clear h hok sp ap op s00 a0 h0 ok0 hB hn hqc hc0 ap0
  go_enter Tryz.func140, Tryz.ntmps140
  go_wp2_with fail
  with_reducible refine T.mono ?_
  rintro e w1 ⟨rfl, c1, i1, s1, o1⟩
  have a1 := A0.out.keep s1 (show ¬ q = k by omega)
  clear z1 T
  have hi0 : (Tryz.prog.info? 51).map (·.size) = some B.length := by rw [info_hash, HB.out.2.2]
  have hi1 : (Tryz.prog.info? 51).map (·.size) = some B.toArray.size := by rw [info_hash]; simp [HB.out.2.2]
  have ht0 := a1.there (o := 0) (n := B.toArray.size) o1 hq0 (by simp [bC_len, HB.out.2.2])
  obtain ⟨S0, a2⟩ := a1.st o1 hq0 (ty := 51) (us := B) (by simp [bC_len, HB.out.2.2]) hi0 HB.out.2.1
  have s3 : Step (One q) c1 w1 c1 (w1.setCells b0 0 B) := Step.setCells (.inr a1.col) _ _ _ Step.refl
  have HX := Lib.hid (And.intro a2 (And.intro ht0 (And.intro hi1 (And.intro (all_oneCell_toArray HB.out.2.1) (And.intro hi0 (And.intro (i1.keep s3 (show ¬ k = q by omega) (show ¬ 0 = q by omega)) (And.intro (Step.setCells (.inl hb0) B 0 _ (S00.out.ofNo.trans s1)) (Ok.setCells (b := b0) B 0 _ o1))))))))
  clear a1 i1 s1 o1 hi0 hi1 ht0 S0 a2 s3
  go_wp2_with (first | (refine wpList_store_mid rfl 51 _ _ rfl b0 0 B.toArray rfl rfl HX.out.2.1 HX.out.2.2.1 HX.out.2.2.2.1 ?_))
  refine bodyPost_ret (results_cell_mid rfl _ _ b0 0 B _ rfl HX.out.1.cells Tryz.underlying51 rfl HX.out.2.2.2.2.1) rfl ⟨by rw [← HB.out.1], c1, HX.out.2.2.2.2.2.1, HX.out.2.2.2.2.2.2.1, HX.out.2.2.2.2.2.2.2⟩

set_option maxRecDepth 100000 in
set_option maxHeartbeats 800000 in
theorem RKey_any (hok : Ok c w) {k p : Nat} {bs : List UInt8} {a : Nat} {f : Int} (h : IsRd c k w p bs a (0, f)) (hk0 : k ≠ 0) (hn : a + 4 ≤ bs.length) :
    Calls Tryz.prog 144 #[.pointer (some ⟨p, 0, none⟩)] w fun r w' => r = .returned (.agg (bC ((bs.drop a).take 4)).toArray) ∧
      ∃ c', IsRd c' k w' p bs (a + 4) (0, f) ∧ Step (One k) c w c' w' ∧ Ok c' w' := by
  have sp : Step No c w c (w.alloc (.cells #[.pointer (some ⟨p, 0, none⟩)] 112)) := Step.refl.alloc _
  have ap := At.new0 hok [.pointer (some ⟨p, 0, none⟩)] 112
  have op := hok.alloc (.cells #[.pointer (some ⟨p, 0, none⟩)] 112)
  obtain ⟨q, hq, hqc⟩ := op.spare k
  have hq0 : q ≠ 0 := by omega
  obtain ⟨a0, ok0, s00⟩ := newAt op (bC (List.replicate 4 0)) 91 q
  have h0 := (h.kn sp).kn s00
  have ap0 := ap.keep s00 (fun h => h)
  rw [show (bC (List.replicate 4 0)).toArray = #[.int .u8 0, .int .u8 0, .int .u8 0, .int .u8 0] from rfl] at a0 ok0 s00 h0 ap0
  obtain ⟨w0, hw0⟩ : ∃ w0, (w.alloc (.cells #[.pointer (some ⟨p, 0, none⟩)] 112)).alloc (.cells #[.int .u8 0, .int .u8 0, .int .u8 0, .int .u8 0] 91) = w0 := ⟨_, rfl⟩
  obtain ⟨c0, hc0⟩ : ∃ c0, c.put (w.alloc (.cells #[.pointer (some ⟨p, 0, none⟩)] 112)).heap.size q = c0 := ⟨_, rfl⟩
  rw [hw0, hc0] at a0 ok0 s00 h0 ap0
  rw [World.size_alloc] at a0
  obtain ⟨b0, hbe⟩ : ∃ b0, w.heap.size + 1 = b0 := ⟨_, rfl⟩
  have hb0 : w.heap.size ≤ b0 := by omega
  rw [hbe] at a0
  have S00 := Lib.hid (sp.trans s00)
  obtain ⟨B, hB⟩ : ∃ B, bC ((bs.drop a).take 4) = B := ⟨_, rfl⟩
  have HB := Lib.hid (And.intro hB (And.intro (show ∀ v ∈ B, v.oneCell' = true by rw [← hB]; exact bC_one _) (show B.length = 4 by rw [← hB, bC_len, List.length_take, List.length_drop]; omega)))
  have T := readsKey ok0 h0 hk0 hn ap0.c0 ap0.lt
  rw [hB] at T
  have A0 := Lib.hid a0
  have z1 := ap0.c0
  have hmf : ∀ (fn : Fn) (first cap : Array Value) (w : World), (Instr.makeFunc fn first cap).run Tryz.prog w = .ok (.func fn first cap) w := fun _ _ _ _ => rfl
  clear h hok sp ap op s00 a0 h0 ok0 hB hn hqc hc0 ap0
  go_enter Tryz.func144, Tryz.ntmps144
  go_wp2_with fail
  with_reducible refine T.mono ?_
  rintro e w1 ⟨rfl, c1, i1, s1, o1⟩
  have a1 := A0.out.keep s1 (show ¬ q = k by omega)
  clear z1 T
  have hi0 : (Tryz.prog.info? 91).map (·.size) = some B.length := by rw [info_key, HB.out.2.2]
  have hi1 : (Tryz.prog.info? 91).map (·.size) = some B.toArray.size := by rw [info_key]; simp [HB.out.2.2]
  have ht0 := a1.there (o := 0) (n := B.toArray.size) o1 hq0 (by simp [bC_len, HB.out.2.2])
  obtain ⟨S0, a2⟩ := a1.st o1 hq0 (ty := 91) (us := B) (by simp [bC_len, HB.out.2.2]) hi0 HB.out.2.1
  have s3 : Step (One q) c1 w1 c1 (w1.setCells b0 0 B) := Step.setCells (.inr a1.col) _ _ _ Step.refl
  have HX := Lib.hid (And.intro a2 (And.intro ht0 (And.intro hi1 (And.intro (all_oneCell_toArray HB.out.2.1) (And.intro hi0 (And.intro (i1.keep s3 (show ¬ k = q by omega) (show ¬ 0 = q by omega)) (And.intro (Step.setCells (.inl hb0) B 0 _ (S00.out.ofNo.trans s1)) (Ok.setCells (b := b0) B 0 _ o1))))))))
  clear a1 i1 s1 o1 hi0 hi1 ht0 S0 a2 s3
  go_wp2_with (first | (refine wpList_store_mid rfl 91 _ _ rfl b0 0 B.toArray rfl rfl HX.out.2.1 HX.out.2.2.1 HX.out.2.2.2.1 ?_))
  refine bodyPost_ret (results_cell_mid rfl _ _ b0 0 B _ rfl HX.out.1.cells Tryz.underlying91 rfl HX.out.2.2.2.2.1) rfl ⟨by rw [← HB.out.1], c1, HX.out.2.2.2.2.2.1, HX.out.2.2.2.2.2.2.1, HX.out.2.2.2.2.2.2.2⟩
end
end Go.Proofs.YtgcobbapaaihiaaGreat
