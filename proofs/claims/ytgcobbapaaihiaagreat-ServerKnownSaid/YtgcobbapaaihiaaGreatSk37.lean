/- ServerKnown, part 37: lemmas, each with its own conditions. -/
import Derived.Test.YtgcobbapaaihiaaGreatSk08
import Derived.Test.YtgcobbapaaihiaaGreatSk24
set_option linter.unusedVariables false
set_option linter.unusedSimpArgs false
namespace Go.Proofs.YtgcobbapaaihiaaGreat
open Go.RowKit

section
variable {c : Col} {w : World}

set_option maxRecDepth 100000 in
theorem word1_any (hok : Ok c w) {k p b : Nat} {bs : List UInt8} {a : Nat} {f : Int × Int} (h : IsRd c k w p bs a f) (hk0 : k ≠ 0) (hn : a + 8 ≤ bs.length) (hc : w.cell? ⟨b, 0, none⟩ = some (.pointer (some ⟨p, 0, none⟩))) (at0 : Int) :
    Calls Tryz.prog 172 #[.int .i64 at0, .pointer (some ⟨b, 0, none⟩)] w fun r w' => r = .returned (.int .u64 (bigN ((bs.drop a).take 8))) ∧
      ∃ c', IsRd c' k w' p bs (a + 8) f ∧ Step (One k) c w c' w' ∧ Ok c' w' := by
  have T : Calls Tryz.prog 135 #[.pointer (some ⟨p, 0, none⟩), .int .i64 8, .int .i64 at0, .func (.func 136) #[] #[]] w fun r w' => r = .returned (.int .u64 (bigN ((bs.drop a).take 8))) ∧ IsRd c k w' p bs (a + 8) f ∧ Step (One k) c w c w' ∧ Ok c w' :=
    takeN_any hok h hk0 8 hn (by omega) at0
  obtain ⟨r, hr⟩ : ∃ r, bigN ((bs.drop a).take 8) = r := ⟨_, rfl⟩
  rw [hr] at T ⊢
  clear h hok hn hr
  go_enter Tryz.func172, Tryz.ntmps172
  go_wp2_with fail
  with_reducible refine T.mono ?_
  rintro e w1 ⟨rfl, i1, s1, o1⟩
  have X := Lib.hid (And.intro i1 (And.intro s1 o1))
  clear T i1 s1 o1
  go_wp2_with fail
  go_ret
  exact ⟨rfl, c, X.out⟩

set_option maxRecDepth 100000 in
set_option maxHeartbeats 800000 in
theorem bytes1_any (hok : Ok c w) {k p b b2 : Nat} {bs : List UInt8} {a : Nat} {f : Int × Int} (h : IsRd c k w p bs a f) (hk0 : k ≠ 0) (x rest : List UInt8) (hx : x.length < 1000000000) (hb : bs.drop a = numB x.length ++ (x ++ rest)) (most : Int) (hm : (x.length : Int) ≤ most)
    (hc : w.cell? ⟨b, 0, none⟩ = some (.pointer (some ⟨p, 0, none⟩))) (hc2 : w.cell? ⟨b2, 0, none⟩ = some (.int .i64 most)) (hb0 : c b = 0) (hb20 : c b2 = 0) (hbl : b < w.heap.size) (hb2l : b2 < w.heap.size) (at0 : Int) :
    Calls Tryz.prog 100 #[.int .i64 at0, .pointer (some ⟨b, 0, none⟩), .pointer (some ⟨b2, 0, none⟩)] w fun r w' => ∃ v, r = .returned v ∧
      ∃ c', Own TByte 5 c' 0 0 w' v x ∧ IsRd c' k w' p bs (a + (numB x.length ++ x).length) f ∧ Step (One k) c w c' w' ∧ Ok c' w' := by
  have R := rnum_any hok h hk0 x.length (by omega) hb at0
  have hmx : max most 0 = most := by omega
  have hle := h.le
  have hd2 : (bs.drop (a + (numB x.length).length)).take x.length = x := by rw [← List.drop_drop, hb]; simp
  have hl2 : a + (numB x.length).length + x.length ≤ bs.length := by
    have := congrArg List.length hb
    simp only [List.length_drop, List.length_append] at this
    omega
  have hmd : decide ((x.length : Int) ≤ most) = true := by simp; exact hm
  have H := Lib.hid (And.intro hd2 hl2)
  clear h hok hb hd2 hl2 hle
  go_enter Tryz.func100, Tryz.ntmps100
  go_wp2_with fail
  with_reducible refine R.mono ?_
  rintro e w1 ⟨rfl, c1, i1, s1, o1⟩
  have z1 := (s1.cell (o := 0) hbl (by rw [hb0]; exact fun h => hk0 h.symm)).trans hc
  have z2 := (s1.cell (o := 0) hb2l (by rw [hb20]; exact fun h => hk0 h.symm)).trans hc2
  have M := must_yes w1 4 at0
  have T := takeB_any o1 i1 hk0 x.length H.out.2 at0
  rw [H.out.1] at T
  have S1 := Lib.hid s1
  clear R i1 s1 o1 hc hc2
  go_wp2_with fail
  with_reducible refine M.mono ?_
  rintro e w2 ⟨rfl, rfl⟩
  go_wp2_with fail
  with_reducible refine T.mono ?_
  rintro e w3 ⟨v, rfl, c3, p3, i3, s3, o3⟩
  have X := Lib.hid (And.intro p3 (And.intro i3 (And.intro s3 o3)))
  clear T M p3 i3 s3 o3 z1 z2
  go_wp2_with fail
  go_ret
  obtain ⟨p3, i3, s3, o3⟩ := X.out
  exact ⟨v, rfl, c3, p3, by rw [List.length_append, ← Nat.add_assoc]; exact i3, S1.out.trans s3, o3⟩
end
end Go.Proofs.YtgcobbapaaihiaaGreat

set_option linter.unusedVariables false
set_option linter.unusedSimpArgs false
namespace Go.Proofs.YtgcobbapaaihiaaGreat
open Go.RowKit

section
variable {c : Col} {w : World}

set_option maxRecDepth 100000 in
set_option maxHeartbeats 800000 in
theorem readsWord (hok : Ok c w) {k p b : Nat} {bs : List UInt8} {a : Nat} {f : Int} (h : IsRd c k w p bs a (0, f)) (hk0 : k ≠ 0) (hn : a + 8 ≤ bs.length) (hc : w.cell? ⟨b, 0, none⟩ = some (.pointer (some ⟨p, 0, none⟩))) :
    Calls Tryz.prog 171 #[.pointer (some ⟨p, 0, none⟩), .func (.func 172) #[] #[.pointer (some ⟨b, 0, none⟩)]] w fun r w' => r = .returned (.int .u64 (bigN ((bs.drop a).take 8))) ∧ ∃ c', IsRd c' k w' p bs (a + 8) (0, f) ∧ Step (One k) c w c' w' ∧ Ok c' w' := by
  have R := word1_any hok h hk0 hn hc a
  obtain ⟨bv, x0, ow⟩ := h.row
  have y1 := x0.get (i := 1) rfl
  have y2 := x0.get (i := 2) rfl
  have y4 := x0.get (i := 4) rfl
  clear h x0 ow hok
  go_enter_defers Tryz.func171, Tryz.ntmps171
  go_wp2_with fail
  with_reducible refine R.mono ?_
  rintro e w1 ⟨rfl, c1, X0⟩
  have X := Lib.hid X0
  clear R X0
  go_wp2_with fail
  refine leaves_cons (f := 134) (args := #[.pointer (some ⟨p, 0, none⟩)]) (by simp) (by simp [go_sem]) ?_
  refine (caught_idle p w1).mono ?_
  rintro e u' w'' ⟨rfl, rfl, rfl⟩
  exact ⟨_, results_tmp rfl _ _ _, rfl, c1, X.out⟩

set_option maxRecDepth 100000 in
set_option maxHeartbeats 800000 in
theorem readsBytes (hok : Ok c w) {k p b b2 : Nat} {bs : List UInt8} {a : Nat} {f : Int} (h : IsRd c k w p bs a (0, f)) (hk0 : k ≠ 0) (x rest : List UInt8) (hx : x.length < 1000000000) (hb : bs.drop a = numB x.length ++ (x ++ rest)) (most : Int) (hm : (x.length : Int) ≤ most) (hc : w.cell? ⟨b, 0, none⟩ = some (.pointer (some ⟨p, 0, none⟩))) (hc2 : w.cell? ⟨b2, 0, none⟩ = some (.int .i64 most)) (hb0 : c b = 0) (hb20 : c b2 = 0) (hbl : b < w.heap.size) (hb2l : b2 < w.heap.size) :
    Calls Tryz.prog 99 #[.pointer (some ⟨p, 0, none⟩), .func (.func 100) #[] #[.pointer (some ⟨b, 0, none⟩), .pointer (some ⟨b2, 0, none⟩)]] w fun r w' => ∃ v, r = .returned v ∧ ∃ c', Own TByte 5 c' 0 0 w' v x ∧ IsRd c' k w' p bs (a + (numB x.length ++ x).length) (0, f) ∧ Step (One k) c w c' w' ∧ Ok c' w' := by
  have R := bytes1_any hok h hk0 x rest hx hb most hm hc hc2 hb0 hb20 hbl hb2l a
  obtain ⟨bv, x0, ow⟩ := h.row
  have y1 := x0.get (i := 1) rfl
  have y2 := x0.get (i := 2) rfl
  have y4 := x0.get (i := 4) rfl
  clear h x0 ow hok
  go_enter_defers Tryz.func99, Tryz.ntmps99
  go_wp2_with fail
  with_reducible refine R.mono ?_
  rintro e w1 ⟨v, rfl, c1, X0⟩
  have X := Lib.hid X0
  clear R X0
  go_wp2_with fail
  refine leaves_cons (f := 134) (args := #[.pointer (some ⟨p, 0, none⟩)]) (by simp) (by simp [go_sem]) ?_
  refine (caught_idle p w1).mono ?_
  rintro e u' w'' ⟨rfl, rfl, rfl⟩
  exact ⟨_, results_tmp rfl _ _ _, v, rfl, c1, X.out⟩

set_option maxRecDepth 100000 in
theorem Word_any (hok : Ok c w) {k p : Nat} {bs : List UInt8} {a : Nat} {f : Int} (h : IsRd c k w p bs a (0, f)) (hk0 : k ≠ 0) (hn : a + 8 ≤ bs.length) :
    Calls Tryz.prog 142 #[.pointer (some ⟨p, 0, none⟩)] w fun r w' => r = .returned (.int .u64 (bigN ((bs.drop a).take 8))) ∧ ∃ c', IsRd c' k w' p bs (a + 8) (0, f) ∧ Step (One k) c w c' w' ∧ Ok c' w' := by
  have s1 : Step No c w c (w.alloc (.cells #[.pointer (some ⟨p, 0, none⟩)] 112)) := Step.refl.alloc _
  have a1 := At.new0 hok [.pointer (some ⟨p, 0, none⟩)] 112
  have R := readsWord (hok.alloc _) (h.kn s1) hk0 hn a1.c0
  have hmf : ∀ (fn : Fn) (first cap : Array Value) (w : World), (Instr.makeFunc fn first cap).run Tryz.prog w = .ok (.func fn first cap) w := fun _ _ _ _ => rfl
  have S := Lib.hid s1
  clear h hok s1 a1
  go_enter Tryz.func142, Tryz.ntmps142
  go_wp2_with fail
  with_reducible refine R.mono ?_
  rintro e w1 ⟨rfl, c1, i1, s2, o1⟩
  have HX := Lib.hid (And.intro i1 (And.intro (S.out.ofNo.trans s2) o1))
  clear i1 s2 o1 R
  go_wp2_with fail
  go_ret
  exact ⟨rfl, c1, HX.out⟩

set_option maxRecDepth 100000 in
theorem Bytes_any (hok : Ok c w) {k p : Nat} {bs : List UInt8} {a : Nat} {f : Int} (h : IsRd c k w p bs a (0, f)) (hk0 : k ≠ 0) (x rest : List UInt8) (hx : x.length < 1000000000) (hb : bs.drop a = numB x.length ++ (x ++ rest)) (most : Int) (hm : (x.length : Int) ≤ most) :
    Calls Tryz.prog 57 #[.pointer (some ⟨p, 0, none⟩), .int .i64 most] w fun r w' => ∃ v, r = .returned v ∧ ∃ c', Own TByte 5 c' 0 0 w' v x ∧ IsRd c' k w' p bs (a + (numB x.length ++ x).length) (0, f) ∧ Step (One k) c w c' w' ∧ Ok c' w' := by
  have s1 : Step No c w c (w.alloc (.cells #[.pointer (some ⟨p, 0, none⟩)] 112)) := Step.refl.alloc _
  have a1 := At.new0 hok [.pointer (some ⟨p, 0, none⟩)] 112
  have o1 := hok.alloc (.cells #[.pointer (some ⟨p, 0, none⟩)] 112)
  have s2 : Step No c (w.alloc (.cells #[.pointer (some ⟨p, 0, none⟩)] 112)) c ((w.alloc (.cells #[.pointer (some ⟨p, 0, none⟩)] 112)).alloc (.cells #[.int .i64 most] 3)) := Step.refl.alloc _
  have a2 := At.new0 o1 [.int .i64 most] 3
  have a12 := a1.keep s2 (fun h => h)
  have R := readsBytes (o1.alloc _) ((h.kn s1).kn s2) hk0 x rest hx hb most hm a12.c0 a2.c0 a12.col a2.col a12.lt a2.lt
  rw [World.size_alloc] at R
  have hmf : ∀ (fn : Fn) (first cap : Array Value) (w : World), (Instr.makeFunc fn first cap).run Tryz.prog w = .ok (.func fn first cap) w := fun _ _ _ _ => rfl
  have z1 := a12.c0
  have S := Lib.hid (s1.trans s2)
  clear h hok s1 a1 o1 s2 a2 a12
  go_enter Tryz.func57, Tryz.ntmps57
  go_wp2_with fail
  with_reducible refine R.mono ?_
  rintro e w1 ⟨v, rfl, c1, p1, i1, s2, o1⟩
  have HX := Lib.hid (And.intro p1 (And.intro i1 (And.intro (S.out.ofNo.trans s2) o1)))
  clear p1 i1 s2 o1 R
  go_wp2_with fail
  go_ret
  exact ⟨v, rfl, c1, HX.out⟩

set_option maxRecDepth 100000 in
theorem Text_any (hok : Ok c w) {k p : Nat} {bs : List UInt8} {a : Nat} {f : Int} (h : IsRd c k w p bs a (0, f)) (hk0 : k ≠ 0) (x rest : List UInt8) (hx : x.length < 1000000000) (hb : bs.drop a = numB x.length ++ (x ++ rest)) (most : Int) (hm : (x.length : Int) ≤ most) :
    Calls Tryz.prog 138 #[.pointer (some ⟨p, 0, none⟩), .int .i64 most] w fun r w' => r = .returned (.string ⟨x.toArray⟩) ∧ ∃ c', IsRd c' k w' p bs (a + (numB x.length ++ x).length) (0, f) ∧ Step (One k) c w c' w' ∧ Ok c' w' := by
  have R := Bytes_any hok h hk0 x rest hx hb most hm
  clear h hok
  go_enter Tryz.func138, Tryz.ntmps138
  go_wp2_with fail
  with_reducible refine R.mono ?_
  rintro e w1 ⟨v, rfl, c1, p1, X⟩
  have hcv := conv_sl (P := Tryz.prog) p1.sl 26 9 5 Tryz.underlying26 Tryz.underlying5 Tryz.underlying9
  obtain ⟨va, vc, rfl, _⟩ := p1.sl.form
  have HX := Lib.hid X
  clear X R p1
  go_wp2_with fail
  go_ret
  exact ⟨rfl, c1, HX.out⟩
end
end Go.Proofs.YtgcobbapaaihiaaGreat

set_option linter.unusedVariables false
set_option linter.unusedSimpArgs false
namespace Go.Proofs.YtgcobbapaaihiaaGreat
open Go.RowKit

section
variable {c : Col} {w : World}

set_option maxRecDepth 100000 in
set_option maxHeartbeats 800000 in
theorem hash1_any (hok : Ok c w) {k p b : Nat} {bs : List UInt8} {a : Nat} {f : Int × Int} (h : IsRd c k w p bs a f) (hk0 : k ≠ 0) (hn : a + 32 ≤ bs.length) (hc : w.cell? ⟨b, 0, none⟩ = some (.pointer (some ⟨p, 0, none⟩))) (hbl : b < w.heap.size) (at0 : Int) :
    Calls Tryz.prog 167 #[.int .i64 at0, .pointer (some ⟨b, 0, none⟩)] w fun r w' => r = .returned (.agg (bC ((bs.drop a).take 32)).toArray) ∧
      ∃ c', IsRd c' k w' p bs (a + 32) f ∧ Step (One k) c w c' w' ∧ Ok c' w' := by
  obtain ⟨q, hq, hqc⟩ := hok.spare k
  have hq0 : q ≠ 0 := by omega
  obtain ⟨a0, ok0, s00⟩ := newAt hok (bC (List.replicate 32 0)) 51 q
  have h0 := h.kn s00
  rw [show (bC (List.replicate 32 0)).toArray = #[.int .u8 0, .int .u8 0, .int .u8 0, .int .u8 0, .int .u8 0, .int .u8 0, .int .u8 0, .int .u8 0, .int .u8 0, .int .u8 0, .int .u8 0, .int .u8 0, .int .u8 0, .int .u8 0, .int .u8 0, .int .u8 0, .int .u8 0, .int .u8 0, .int .u8 0, .int .u8 0, .int .u8 0, .int .u8 0, .int .u8 0, .int .u8 0, .int .u8 0, .int .u8 0, .int .u8 0, .int .u8 0, .int .u8 0, .int .u8 0, .int .u8 0, .int .u8 0] from rfl] at a0 ok0 s00 h0
  obtain ⟨w0, hw0⟩ : ∃ w0, w.alloc (.cells #[.int .u8 0, .int .u8 0, .int .u8 0, .int .u8 0, .int .u8 0, .int .u8 0, .int .u8 0, .int .u8 0, .int .u8 0, .int .u8 0, .int .u8 0, .int .u8 0, .int .u8 0, .int .u8 0, .int .u8 0, .int .u8 0, .int .u8 0, .int .u8 0, .int .u8 0, .int .u8 0, .int .u8 0, .int .u8 0, .int .u8 0, .int .u8 0, .int .u8 0, .int .u8 0, .int .u8 0, .int .u8 0, .int .u8 0, .int .u8 0, .int .u8 0, .int .u8 0] 51) = w0 := ⟨_, rfl⟩
  obtain ⟨c0, hc0⟩ : ∃ c0, c.put w.heap.size q = c0 := ⟨_, rfl⟩
  obtain ⟨b0, hbe⟩ : ∃ b0, w.heap.size = b0 := ⟨_, rfl⟩
  have hb0 : w.heap.size ≤ b0 := by omega
  rw [hw0, hc0] at a0 ok0 s00 h0
  rw [hbe] at a0
  have S00 := Lib.hid s00
  have HBE := Lib.hid hbe
  obtain ⟨B, hB⟩ : ∃ B, bC ((bs.drop a).take 32) = B := ⟨_, rfl⟩
  have HB := Lib.hid (And.intro hB (And.intro (show ∀ v ∈ B, v.oneCell' = true by rw [← hB]; exact bC_one _) (show B.length = 32 by rw [← hB, bC_len, List.length_take, List.length_drop]; omega)))
  have z1 := (s00.cell (o := 0) hbl (fun h => h)).trans hc
  have T : Calls Tryz.prog 168 #[.pointer (some ⟨p, 0, none⟩), .int .i64 32, .int .i64 at0, .func (.func 169) #[] #[]] w0 fun r w' => r = .returned (.agg (bC ((bs.drop a).take 32)).toArray) ∧ ∃ c', IsRd c' k w' p bs (a + 32) f ∧ Step (One k) c0 w0 c' w' ∧ Ok c' w' :=
    take_hash ok0 h0 hk0 32 hn rfl at0
  rw [hB] at T
  have A0 := Lib.hid a0
  clear h hok s00 a0 h0 ok0 hB hn hqc hc0 hc
  go_enter Tryz.func167, Tryz.ntmps167
  go_wp2_with fail
  with_reducible refine T.mono ?_
  rintro e w1 ⟨rfl, c1, i1, s1, o1⟩
  have a1 := A0.out.keep s1 (show ¬ q = k by omega)
  clear z1 T
  have hi0 : (Tryz.prog.info? 51).map (·.size) = some B.length := by rw [info_hash, HB.out.2.2]
  have hi1 : (Tryz.prog.info? 51).map (·.size) = some B.toArray.size := by rw [info_hash]; simp [HB.out.2.2]
  have ht0 := a1.there (o := 0) (n := B.toArray.size) o1 hq0 (by simp [bC_len, HB.out.2.2])
  obtain ⟨S0, a2⟩ := a1.st o1 hq0 (ty := 51) (us := B) (by simp [bC_len, HB.out.2.2]) hi0 HB.out.2.1
  have s3 : Step (One q) c1 w1 c1 (w1.setCells b0 0 B) := Step.setCells (.inr a1.col) _ _ _ Step.refl
  have HX := Lib.hid (And.intro a2 (And.intro ht0 (And.intro hi1 (And.intro (all_oneCell_toArray HB.out.2.1) (And.intro hi0 (And.intro (i1.keep s3 (show ¬ k = q by omega) (show ¬ 0 = q by omega)) (And.intro (Step.setCells (.inl hb0) B 0 _ (S00.out.ofNo.trans s1)) (Ok.setCells (b := b0) B 0 _ o1))))))))
  clear a1 i1 s1 o1 hi0 hi1 ht0 S0 a2 s3
  go_wp2_with (first | (refine wpList_store_mid rfl 51 _ _ rfl b0 0 B.toArray rfl rfl HX.out.2.1 HX.out.2.2.1 HX.out.2.2.2.1 ?_))
  refine bodyPost_ret (results_cell_mid rfl _ _ b0 0 B _ rfl HX.out.1.cells Tryz.underlying51 rfl HX.out.2.2.2.2.1) rfl ⟨by rw [← HB.out.1], c1, HX.out.2.2.2.2.2.1, HX.out.2.2.2.2.2.2.1, HX.out.2.2.2.2.2.2.2⟩

set_option maxRecDepth 100000 in
set_option maxHeartbeats 800000 in
theorem readsHash (hok : Ok c w) {k p b : Nat} {bs : List UInt8} {a : Nat} {f : Int} (h : IsRd c k w p bs a (0, f)) (hk0 : k ≠ 0) (hn : a + 32 ≤ bs.length) (hc : w.cell? ⟨b, 0, none⟩ = some (.pointer (some ⟨p, 0, none⟩))) (hbl : b < w.heap.size) :
    Calls Tryz.prog 166 #[.pointer (some ⟨p, 0, none⟩), .func (.func 167) #[] #[.pointer (some ⟨b, 0, none⟩)]] w fun r w' => r = .returned (.agg (bC ((bs.drop a).take 32)).toArray) ∧
      ∃ c', IsRd c' k w' p bs (a + 32) (0, f) ∧ Step (One k) c w c' w' ∧ Ok c' w' := by
  obtain ⟨q, hq, hqc⟩ := hok.spare k
  have hq0 : q ≠ 0 := by omega
  obtain ⟨a0, ok0, s00⟩ := newAt hok (bC (List.replicate 32 0)) 51 q
  have h0 := h.kn s00
  rw [show (bC (List.replicate 32 0)).toArray = #[.int .u8 0, .int .u8 0, .int .u8 0, .int .u8 0, .int .u8 0, .int .u8 0, .int .u8 0, .int .u8 0, .int .u8 0, .int .u8 0, .int .u8 0, .int .u8 0, .int .u8 0, .int .u8 0, .int .u8 0, .int .u8 0, .int .u8 0, .int .u8 0, .int .u8 0, .int .u8 0, .int .u8 0, .int .u8 0, .int .u8 0, .int .u8 0, .int .u8 0, .int .u8 0, .int .u8 0, .int .u8 0, .int .u8 0, .int .u8 0, .int .u8 0, .int .u8 0] from rfl] at a0 ok0 s00 h0
  obtain ⟨w0, hw0⟩ : ∃ w0, w.alloc (.cells #[.int .u8 0, .int .u8 0, .int .u8 0, .int .u8 0, .int .u8 0, .int .u8 0, .int .u8 0, .int .u8 0, .int .u8 0, .int .u8 0, .int .u8 0, .int .u8 0, .int .u8 0, .int .u8 0, .int .u8 0, .int .u8 0, .int .u8 0, .int .u8 0, .int .u8 0, .int .u8 0, .int .u8 0, .int .u8 0, .int .u8 0, .int .u8 0, .int .u8 0, .int .u8 0, .int .u8 0, .int .u8 0, .int .u8 0, .int .u8 0, .int .u8 0, .int .u8 0] 51) = w0 := ⟨_, rfl⟩
  obtain ⟨c0, hc0⟩ : ∃ c0, c.put w.heap.size q = c0 := ⟨_, rfl⟩
  obtain ⟨b0, hbe⟩ : ∃ b0, w.heap.size = b0 := ⟨_, rfl⟩
  have hb0 : w.heap.size ≤ b0 := by omega
  rw [hw0, hc0] at a0 ok0 s00 h0
  rw [hbe] at a0
  have S00 := Lib.hid s00
  have HBE := Lib.hid hbe
  obtain ⟨B, hB⟩ : ∃ B, bC ((bs.drop a).take 32) = B := ⟨_, rfl⟩
  have HB := Lib.hid (And.intro hB (And.intro (show ∀ v ∈ B, v.oneCell' = true by rw [← hB]; exact bC_one _) (show B.length = 32 by rw [← hB, bC_len, List.length_take, List.length_drop]; omega)))
  have z1 := (s00.cell (o := 0) hbl (fun h => h)).trans hc
  have T := hash1_any ok0 h0 hk0 hn z1 (Nat.lt_of_lt_of_le hbl s00.size) a
  rw [hB] at T
  obtain ⟨bv, x0, ow⟩ := h0.row
  have y1 := x0.get (i := 1) rfl
  have y2 := x0.get (i := 2) rfl
  have y4 := x0.get (i := 4) rfl
  have A0 := Lib.hid a0
  clear h hok s00 a0 h0 ok0 hB hn hqc hc0 hc x0 ow z1
  go_enter_defers Tryz.func166, Tryz.ntmps166
  go_wp2_with fail
  with_reducible refine T.mono ?_
  rintro e w1 ⟨rfl, c1, i1, s1, o1⟩
  have a1 := A0.out.keep s1 (show ¬ q = k by omega)
  clear T y1 y2 y4
  have hi0 : (Tryz.prog.info? 51).map (·.size) = some B.length := by rw [info_hash, HB.out.2.2]
  have hi1 : (Tryz.prog.info? 51).map (·.size) = some B.toArray.size := by rw [info_hash]; simp [HB.out.2.2]
  have ht0 := a1.there (o := 0) (n := B.toArray.size) o1 hq0 (by simp [bC_len, HB.out.2.2])
  obtain ⟨S0, a2⟩ := a1.st o1 hq0 (ty := 51) (us := B) (by simp [bC_len, HB.out.2.2]) hi0 HB.out.2.1
  have s3 : Step (One q) c1 w1 c1 (w1.setCells b0 0 B) := Step.setCells (.inr a1.col) _ _ _ Step.refl
  have HX := Lib.hid (And.intro a2 (And.intro ht0 (And.intro hi1 (And.intro (all_oneCell_toArray HB.out.2.1) (And.intro hi0 (And.intro (i1.keep s3 (show ¬ k = q by omega) (show ¬ 0 = q by omega)) (And.intro (Step.setCells (.inl hb0) B 0 _ (S00.out.ofNo.trans s1)) (Ok.setCells (b := b0) B 0 _ o1))))))))
  clear a1 i1 s1 o1 hi0 hi1 ht0 S0 a2 s3
  go_wp2_with (first | (refine wpList_store_mid rfl 51 _ _ rfl b0 0 B.toArray rfl rfl HX.out.2.1 HX.out.2.2.1 HX.out.2.2.2.1 ?_))
  refine leaves_cons (f := 134) (args := #[.pointer (some ⟨p, 0, none⟩)]) (by simp) (by simp [go_sem]) ?_
  refine (caught_idle p _).mono ?_
  rintro e u' w'' ⟨rfl, rfl, rfl⟩
  exact ⟨_, results_cell_mid rfl _ _ b0 0 B _ rfl HX.out.1.cells Tryz.underlying51 rfl HX.out.2.2.2.2.1, by rw [← HB.out.1], c1, HX.out.2.2.2.2.2.1, HX.out.2.2.2.2.2.2.1, HX.out.2.2.2.2.2.2.2⟩

set_option maxRecDepth 100000 in
set_option maxHeartbeats 800000 in
theorem key1_any (hok : Ok c w) {k p b : Nat} {bs : List UInt8} {a : Nat} {f : Int × Int} (h : IsRd c k w p bs a f) (hk0 : k ≠ 0) (hn : a + 4 ≤ bs.length) (hc : w.cell? ⟨b, 0, none⟩ = some (.pointer (some ⟨p, 0, none⟩))) (hbl : b < w.heap.size) (at0 : Int) :
    Calls Tryz.prog 175 #[.int .i64 at0, .pointer (some ⟨b, 0, none⟩)] w fun r w' => r = .returned (.agg (bC ((bs.drop a).take 4)).toArray) ∧
      ∃ c', IsRd c' k w' p bs (a + 4) f ∧ Step (One k) c w c' w' ∧ Ok c' w' := by
  obtain ⟨q, hq, hqc⟩ := hok.spare k
  have hq0 : q ≠ 0 := by omega
  obtain ⟨a0, ok0, s00⟩ := newAt hok (bC (List.replicate 4 0)) 91 q
  have h0 := h.kn s00
  rw [show (bC (List.replicate 4 0)).toArray = #[.int .u8 0, .int .u8 0, .int .u8 0, .int .u8 0] from rfl] at a0 ok0 s00 h0
  obtain ⟨w0, hw0⟩ : ∃ w0, w.alloc (.cells #[.int .u8 0, .int .u8 0, .int .u8 0, .int .u8 0] 91) = w0 := ⟨_, rfl⟩
  obtain ⟨c0, hc0⟩ : ∃ c0, c.put w.heap.size q = c0 := ⟨_, rfl⟩
  obtain ⟨b0, hbe⟩ : ∃ b0, w.heap.size = b0 := ⟨_, rfl⟩
  have hb0 : w.heap.size ≤ b0 := by omega
  rw [hw0, hc0] at a0 ok0 s00 h0
  rw [hbe] at a0
  have S00 := Lib.hid s00
  have HBE := Lib.hid hbe
  obtain ⟨B, hB⟩ : ∃ B, bC ((bs.drop a).take 4) = B := ⟨_, rfl⟩
  have HB := Lib.hid (And.intro hB (And.intro (show ∀ v ∈ B, v.oneCell' = true by rw [← hB]; exact bC_one _) (show B.length = 4 by rw [← hB, bC_len, List.length_take, List.length_drop]; omega)))
  have z1 := (s00.cell (o := 0) hbl (fun h => h)).trans hc
  have T : Calls Tryz.prog 176 #[.pointer (some ⟨p, 0, none⟩), .int .i64 4, .int .i64 at0, .func (.func 177) #[] #[]] w0 fun r w' => r = .returned (.agg (bC ((bs.drop a).take 4)).toArray) ∧ ∃ c', IsRd c' k w' p bs (a + 4) f ∧ Step (One k) c0 w0 c' w' ∧ Ok c' w' :=
    take_key ok0 h0 hk0 4 hn rfl at0
  rw [hB] at T
  have A0 := Lib.hid a0
  clear h hok s00 a0 h0 ok0 hB hn hqc hc0 hc
  go_enter Tryz.func175, Tryz.ntmps175
  go_wp2_with fail
  with_reducible refine T.mono ?_
  rintro e w1 ⟨rfl, c1, i1, s1, o1⟩
  have a1 := A0.out.keep s1 (show ¬ q = k by omega)
  clear z1 T
  have hi0 : (Tryz.prog.info? 91).map (·.size) = some B.length := by rw [info_key, HB.out.2.2]
  have hi1 : (Tryz.prog.info? 91).map (·.size) = some B.toArray.size := by rw [info_key]; simp [HB.out.2.2]
  have ht0 := a1.there (o := 0) (n := B.toArray.size) o1 hq0 (by simp [bC_len, HB.out.2.2])
  obtain ⟨S0, a2⟩ := a1.st o1 hq0 (ty := 91) (us := B) (by simp [bC_len, HB.out.2.2]) hi0 HB.out.2.1
  have s3 : Step (One q) c1 w1 c1 (w1.setCells b0 0 B) := Step.setCells (.inr a1.col) _ _ _ Step.refl
  have HX := Lib.hid (And.intro a2 (And.intro ht0 (And.intro hi1 (And.intro (all_oneCell_toArray HB.out.2.1) (And.intro hi0 (And.intro (i1.keep s3 (show ¬ k = q by omega) (show ¬ 0 = q by omega)) (And.intro (Step.setCells (.inl hb0) B 0 _ (S00.out.ofNo.trans s1)) (Ok.setCells (b := b0) B 0 _ o1))))))))
  clear a1 i1 s1 o1 hi0 hi1 ht0 S0 a2 s3
  go_wp2_with (first | (refine wpList_store_mid rfl 91 _ _ rfl b0 0 B.toArray rfl rfl HX.out.2.1 HX.out.2.2.1 HX.out.2.2.2.1 ?_))
  refine bodyPost_ret (results_cell_mid rfl _ _ b0 0 B _ rfl HX.out.1.cells Tryz.underlying91 rfl HX.out.2.2.2.2.1) rfl ⟨by rw [← HB.out.1], c1, HX.out.2.2.2.2.2.1, HX.out.2.2.2.2.2.2.1, HX.out.2.2.2.2.2.2.2⟩

set_option maxRecDepth 100000 in
set_option maxHeartbeats 800000 in
theorem readsKey (hok : Ok c w) {k p b : Nat} {bs : List UInt8} {a : Nat} {f : Int} (h : IsRd c k w p bs a (0, f)) (hk0 : k ≠ 0) (hn : a + 4 ≤ bs.length) (hc : w.cell? ⟨b, 0, none⟩ = some (.pointer (some ⟨p, 0, none⟩))) (hbl : b < w.heap.size) :
    Calls Tryz.prog 174 #[.pointer (some ⟨p, 0, none⟩), .func (.func 175) #[] #[.pointer (some ⟨b, 0, none⟩)]] w fun r w' => r = .returned (.agg (bC ((bs.drop a).take 4)).toArray) ∧
      ∃ c', IsRd c' k w' p bs (a + 4) (0, f) ∧ Step (One k) c w c' w' ∧ Ok c' w' := by
  obtain ⟨q, hq, hqc⟩ := hok.spare k
  have hq0 : q ≠ 0 := by omega
  obtain ⟨a0, ok0, s00⟩ := newAt hok (bC (List.replicate 4 0)) 91 q
  have h0 := h.kn s00
  rw [show (bC (List.replicate 4 0)).toArray = #[.int .u8 0, .int .u8 0, .int .u8 0, .int .u8 0] from rfl] at a0 ok0 s00 h0
  obtain ⟨w0, hw0⟩ : ∃ w0, w.alloc (.cells #[.int .u8 0, .int .u8 0, .int .u8 0, .int .u8 0] 91) = w0 := ⟨_, rfl⟩
  obtain ⟨c0, hc0⟩ : ∃ c0, c.put w.heap.size q = c0 := ⟨_, rfl⟩
  obtain ⟨b0, hbe⟩ : ∃ b0, w.heap.size = b0 := ⟨_, rfl⟩
  have hb0 : w.heap.size ≤ b0 := by omega
  rw [hw0, hc0] at a0 ok0 s00 h0
  rw [hbe] at a0
  have S00 := Lib.hid s00
  have HBE := Lib.hid hbe
  obtain ⟨B, hB⟩ : ∃ B, bC ((bs.drop a).take 4) = B := ⟨_, rfl⟩
  have HB := Lib.hid (And.intro hB (And.intro (show ∀ v ∈ B, v.oneCell' = true by rw [← hB]; exact bC_one _) (show B.length = 4 by rw [← hB, bC_len, List.length_take, List.length_drop]; omega)))
  have z1 := (s00.cell (o := 0) hbl (fun h => h)).trans hc
  have T := key1_any ok0 h0 hk0 hn z1 (Nat.lt_of_lt_of_le hbl s00.size) a
  rw [hB] at T
  obtain ⟨bv, x0, ow⟩ := h0.row
  have y1 := x0.get (i := 1) rfl
  have y2 := x0.get (i := 2) rfl
  have y4 := x0.get (i := 4) rfl
  have A0 := Lib.hid a0
  clear h hok s00 a0 h0 ok0 hB hn hqc hc0 hc x0 ow z1
  go_enter_defers Tryz.func174, Tryz.ntmps174
  go_wp2_with fail
  with_reducible refine T.mono ?_
  rintro e w1 ⟨rfl, c1, i1, s1, o1⟩
  have a1 := A0.out.keep s1 (show ¬ q = k by omega)
  clear T y1 y2 y4
  have hi0 : (Tryz.prog.info? 91).map (·.size) = some B.length := by rw [info_key, HB.out.2.2]
  have hi1 : (Tryz.prog.info? 91).map (·.size) = some B.toArray.size := by rw [info_key]; simp [HB.out.2.2]
  have ht0 := a1.there (o := 0) (n := B.toArray.size) o1 hq0 (by simp [bC_len, HB.out.2.2])
  obtain ⟨S0, a2⟩ := a1.st o1 hq0 (ty := 91) (us := B) (by simp [bC_len, HB.out.2.2]) hi0 HB.out.2.1
  have s3 : Step (One q) c1 w1 c1 (w1.setCells b0 0 B) := Step.setCells (.inr a1.col) _ _ _ Step.refl
  have HX := Lib.hid (And.intro a2 (And.intro ht0 (And.intro hi1 (And.intro (all_oneCell_toArray HB.out.2.1) (And.intro hi0 (And.intro (i1.keep s3 (show ¬ k = q by omega) (show ¬ 0 = q by omega)) (And.intro (Step.setCells (.inl hb0) B 0 _ (S00.out.ofNo.trans s1)) (Ok.setCells (b := b0) B 0 _ o1))))))))
  clear a1 i1 s1 o1 hi0 hi1 ht0 S0 a2 s3
  go_wp2_with (first | (refine wpList_store_mid rfl 91 _ _ rfl b0 0 B.toArray rfl rfl HX.out.2.1 HX.out.2.2.1 HX.out.2.2.2.1 ?_))
  refine leaves_cons (f := 134) (args := #[.pointer (some ⟨p, 0, none⟩)]) (by simp) (by simp [go_sem]) ?_
  refine (caught_idle p _).mono ?_
  rintro e u' w'' ⟨rfl, rfl, rfl⟩
  exact ⟨_, results_cell_mid rfl _ _ b0 0 B _ rfl HX.out.1.cells Tryz.underlying91 rfl HX.out.2.2.2.2.1, by rw [← HB.out.1], c1, HX.out.2.2.2.2.2.1, HX.out.2.2.2.2.2.2.1, HX.out.2.2.2.2.2.2.2⟩
end
end Go.Proofs.YtgcobbapaaihiaaGreat
