/- ServerTurns, part 32: lemmas, each with its own conditions. -/
import Derived.Test.YtgcobbapaaihiaaGreatSt19
import Derived.Test.YtgcobbapaaihiaaGreatSt31
set_option linter.unusedVariables false
set_option linter.unusedSimpArgs false
namespace Go.Proofs.YtgcobbapaaihiaaGreat
open Go.RowKit

/-- A decoder of some bytes. -/
def DecT (f : Nat) (E : List UInt8) (Q : Col → World → Value → Prop) : Prop :=
  (∀ args w, (callFunc f args).run Tryz.prog w = .ok (.enter f args) w) ∧
  (∀ (c : Col) (w : World) (kx : Nat) (v : Value), Ok c w → Sl TByte c kx 0 w v E →
    Calls Tryz.prog f #[v] w fun r w' => ∃ x, r = .returned (.tuple #[x, .agg #[.int .i64 0, .int .i64 0]]) ∧ ∃ c', Q c' w' x ∧ Step No c w c' w' ∧ Ok c' w') ∧
  (∀ (K : Nat → Prop) (c : Col) (w : World) (c' : Col) (w' : World) (x : Value), Q c w x → Step K c w c' w' → ¬ K 0 → Q c' w' x)
/-- What is decoded is so many cells. -/
def DecC (Q : Col → World → Value → Prop) (n : Nat) : Prop := ∀ c w x, Q c w x → ∃ X : List Value, x = .agg X.toArray ∧ X.length = n ∧ ∀ u ∈ X, u.oneCell' = true

section
variable {c : Col} {w : World}

set_option maxRecDepth 100000 in
set_option maxHeartbeats 6400000 in
theorem partH_any (hok : Ok c w) {k p : Nat} (hk0 : k ≠ 0) {bs : List UInt8} {a : Nat} (hr : IsRd c k w p bs a (0, 0)) {fb kf : Nat} (hf : At c w fb kf [.int .i64 0, .int .i64 0]) (hkf : ¬ kf = k)
    {d : Nat} {E rest : List UInt8} {Q : Col → World → Value → Prop} (D : DecT d E Q) (QC : DecC Q 131) (hb : bs.drop a = numB E.length ++ (E ++ rest)) (hsm : E.length ≤ 60000) :
    Calls Tryz.prog 103 #[.pointer (some ⟨p, 0, none⟩), .int .i64 bs.length, .pointer (some ⟨fb, 0, none⟩), .func (.func d) #[] #[]] w fun r w' => ∃ x, r = .returned x ∧
      ∃ c', Q c' w' x ∧ IsRd c' k w' p bs (a + (numB E.length ++ E).length) (0, 0) ∧ Step (One k) c w c' w' ∧ Ok c' w' := by
  obtain ⟨q, hq, hqc⟩ := hok.top (k + kf)
  obtain ⟨Z, hZ, zH⟩ := zero_header
  obtain ⟨ar, or_, sr⟩ := newAt hok Z 53 (q + 1)
  obtain ⟨rb, hrb⟩ : ∃ b, w.heap.size = b := ⟨_, rfl⟩
  rw [hrb] at ar or_ sr
  obtain ⟨W1, hW1⟩ : ∃ W, w.alloc (.cells Z.toArray 53) = W := ⟨_, rfl⟩
  rw [hW1] at ar or_ sr
  have hf1 := hf.kn sr
  have y0 := hf1.get (i := 0) rfl
  have y1 := hf1.get (i := 1) rfl
  have hr1 := hr.kn sr
  have RS := rest_ok hr1 rfl
  have X := Lib.hid (And.intro ar (And.intro hf1 (And.intro hr1 (And.intro sr or_))))
  have HB := Lib.hid (And.intro hZ (And.intro zH (And.intro hqc (And.intro hb hsm))))
  have hcf := D.1
  have HD := Lib.hid D.2
  clear ar or_ sr hf1 hr1 hok hr hf hqc hZ zH hb hsm D
  go_enter Tryz.func103, Tryz.ntmps103
  go_wp2_with (refine wpList_alloc_zero rfl (some 8) rfl 53 rfl HB.out.2.1 ?_)
  (try rw [hW1])
  (try rw [hrb])
  with_reducible refine RS.mono ?_
  rintro e w2 ⟨rfl, n2, rfl⟩
  obtain ⟨xr, xf, xi, xs, xo⟩ := X.out
  have sd : Step No (c.put rb (q + 1)) W1 (c.put rb (q + 1)) (W1.drewN n2) := Step.rf.drewN n2
  have BY := Bytes_any (xo.drewN n2) (xi.kn sd) hk0 E rest (by have := HB.out.2.2.2.2; omega) HB.out.2.2.2.1 65536 (by have := HB.out.2.2.2.2; omega)
  have X2 := Lib.hid (And.intro (xr.kn sd) (And.intro (xf.kn sd) (xs.trans sd)))
  clear RS X xr xf xi xs xo sd y0 y1
  go_wp2_with fail
  with_reducible refine BY.mono ?_
  rintro e w3 ⟨v3, rfl, c3, ow3, i3, s3, o3⟩
  obtain ⟨va, vn, rfl, _⟩ := ow3.sl.form
  obtain ⟨a3, ha3⟩ : ∃ a3, a + (numB E.length ++ E).length = a3 := ⟨_, rfl⟩
  rw [ha3] at i3
  have RS := rest_ok i3 rfl
  have hle := i3.le
  obtain ⟨xr, xf, xs⟩ := X2.out
  have X3 := Lib.hid (And.intro (xr.keep s3 (show ¬ q + 1 = k by omega)) (And.intro (xf.keep s3 hkf) (And.intro (xs.ofNo.trans s3) (And.intro ow3 (And.intro i3 (And.intro o3 (And.intro ha3 hle)))))))
  clear BY X2 xr xf xs s3 ow3 i3 o3 ha3
  go_wp2_with fail
  with_reducible refine RS.mono ?_
  rintro e w4 ⟨rfl, n4, rfl⟩
  obtain ⟨xr, xf, xs, xw, xi, xo, ha3, _⟩ := X3.out
  have sd : Step No c3 w3 c3 (w3.drewN n4) := Step.rf.drewN n4
  have xi4 := xi.kn sd
  have xo4 : Ok c3 (w3.drewN n4) := xo.drewN n4
  have xw4 := xw.kn sd
  have xr4 := xr.kn sd
  have xs4 := xs.trans sd.ofNo
  obtain ⟨W4, hW4⟩ : ∃ W, w3.drewN n4 = W := ⟨_, rfl⟩
  rw [hW4] at xi4 xo4 xw4 xr4 xs4 ⊢
  have EN := end_any xo4 xi4
  by_cases hz : bs.length = a3
  · have h0 : ((bs.length : Int) - (a3 : Int) == 0) = true := by simp; omega
    have h0' : (bs.length : Int) - (a3 : Int) = 0 := by omega
    rw [endF_all (by omega)] at EN
    have X4 := Lib.hid (And.intro xi4 (And.intro xw4 (And.intro xr4 (And.intro xs4 ha3))))
    clear RS X3 xr xf xs xw xi xo ha3 sd xi4 xo4 xw4 xr4 xs4 hz
    go_wp2_with fail
    with_reducible refine EN.mono ?_
    rintro e w5 ⟨rfl, c5, s5, o5⟩
    obtain ⟨xi, xw, xr, xs, ha3⟩ := X4.out
    have DC := HD.out.1 c5 w5 0 _ o5 (xw.kn s5).sl
    have X5 := Lib.hid (And.intro (xi.kn s5) (And.intro (xr.kn s5) (And.intro (xs.trans s5.ofNo) ha3)))
    clear EN X4 xi xw xr xs ha3 s5 o5
    go_wp2_with fail
    with_reducible refine DC.mono ?_
    rintro e w6 ⟨x, rfl, c6, q6, s6, o6⟩
    obtain ⟨B, rfl, hBl, hB1⟩ := QC c6 w6 x q6
    obtain ⟨hZ, zH, hqc, _, _⟩ := HB.out
    obtain ⟨ZF, hZF, zF⟩ := zero_fault
    obtain ⟨W7, W8, c8, hW7, hW8, am, af, o8, s8, t1, t2, t3, t4, t5, t6⟩ := stnew2 o6 (ty := 53) hZ hBl hB1 info_hdr hZF (B2 := [.int .i64 0, .int .i64 0]) rfl (by intro v hv; simp only [List.mem_cons, List.not_mem_nil, or_false] at hv; rcases hv with rfl | rfl <;> rfl) info_fault2 (q := q + 2) (q2 := q + 3) (Nat.succ_ne_zero _) (Nat.succ_ne_zero _)
    obtain ⟨xb, hxb⟩ : ∃ b, w6.heap.size = b := ⟨_, rfl⟩
    rw [hxb] at hW7 hW8 am af t1 t4
    obtain ⟨xi, xr, xs, ha3⟩ := X5.out
    have yf0 := af.get (i := 0) rfl
    have yf1 := af.get (i := 1) rfl
    have xr8 := (xr.kn s6).kn s8
    have ht0 := xr8.there (o := 0) (n := B.toArray.size) o8 (Nat.succ_ne_zero q) (by simp [hBl, hZ])
    have hil : (Tryz.prog.info? 53).map (·.size) = some B.length := by rw [info_hdr, hBl]
    obtain ⟨_, a9⟩ := xr8.st o8 (Nat.succ_ne_zero q) (ty := 53) (us := B) (by rw [hBl, hZ]) hil hB1
    have s9 : Step (One (q + 1)) c8 W8 c8 (W8.setCells rb 0 B) := Step.setCells (K := One (q + 1)) (.inr xr8.col) _ _ _ Step.refl
    have o9 := Ok.setCells (b := rb) B 0 _ o8
    have q9 := HD.out.2 _ _ _ _ _ _ (HD.out.2 _ _ _ _ _ _ q6 s8 (fun h => h)) s9 (show ¬ 0 = q + 1 by omega)
    have i9 := ((xi.kn s6).kn s8).keep s9 (show ¬ k = q + 1 by omega) (show ¬ 0 = q + 1 by omega)
    have sAll : Step (One k) c w c8 (W8.setCells rb 0 B) := ((((xs.trans s6.ofNo).trans s8.ofNo).mono (K' := fun j => j = k ∨ j = q + 1) fun j (e : j = k) => .inl e).trans (s9.mono fun j (e : j = q + 1) => .inr e)).drop fun b _ e => by have := hqc b; rcases e with e | e; exact e; omega
    rw [← ha3] at i9
    have F := Lib.hid (And.intro q9 (And.intro i9 (And.intro sAll (And.intro o9 (And.intro a9.cells (And.intro am.cells (And.intro hil ht0)))))))
    have T := Lib.hid (And.intro t1 (And.intro t2 (And.intro t3 (And.intro t4 (And.intro t5 (And.intro t6 (And.intro zH (And.intro zF (And.intro hW7 hW8)))))))))
    clear DC X5 q6 s6 o6 hBl hB1 hZ zH hqc hZF zF hW7 hW8 am af o8 s8 t1 t2 t3 t4 t5 t6 xi xr xs ha3 xr8 ht0 hil a9 s9 o9 q9 i9 sAll
    go_wp2_with (first | (refine wpList_alloc_zero rfl (some 11) rfl 53 rfl T.out.2.2.2.2.2.2.1 ?_; rw [hxb]) | (refine wpList_alloc_zero rfl (some 12) rfl 74 rfl T.out.2.2.2.2.2.2.2.1 ?_; rw [World.size_alloc, hxb]) | (refine wpList_store_mid rfl 53 _ _ rfl xb 0 B.toArray rfl rfl T.out.1 T.out.2.1 T.out.2.2.1 ?_; rw [T.out.2.2.2.2.2.2.2.2.1]) | (refine wpList_store_mid rfl 74 _ _ rfl (xb + 1) 0 _ rfl rfl T.out.2.2.2.1 T.out.2.2.2.2.1 T.out.2.2.2.2.2.1 ?_; rw [T.out.2.2.2.2.2.2.2.2.2]) | (refine wpList_load_mid rfl 53 _ rfl xb 0 rfl B _ F.out.2.2.2.2.2.1 Tryz.underlying53 rfl F.out.2.2.2.2.2.2.1 ?_) | (refine wpList_store_mid rfl 53 _ _ rfl rb 0 B.toArray rfl rfl F.out.2.2.2.2.2.2.2 T.out.2.1 T.out.2.2.1 ?_))
    refine bodyPost_ret (results_cell_mid rfl _ _ rb 0 B _ rfl F.out.2.2.2.2.1 Tryz.underlying53 rfl F.out.2.2.2.2.2.2.1) rfl ⟨_, rfl, c8, F.out.1, F.out.2.1, F.out.2.2.1, F.out.2.2.2.1⟩
  · have h0 : ((bs.length : Int) - (a3 : Int) == 0) = false := by simp; omega
    have h0' : ¬ (bs.length : Int) - (a3 : Int) = 0 := by omega
    have DC := HD.out.1 c3 W4 0 _ xo4 xw4.sl
    have X5 := Lib.hid (And.intro xi4 (And.intro xr4 (And.intro xs4 ha3)))
    clear RS EN X3 xr xf xs xw xi xo ha3 sd xi4 xo4 xw4 xr4 xs4 hz
    go_wp2_with fail
    with_reducible refine DC.mono ?_
    rintro e w6 ⟨x, rfl, c6, q6, s6, o6⟩
    obtain ⟨B, rfl, hBl, hB1⟩ := QC c6 w6 x q6
    obtain ⟨hZ, zH, hqc, _, _⟩ := HB.out
    obtain ⟨ZF, hZF, zF⟩ := zero_fault
    obtain ⟨W7, W8, c8, hW7, hW8, am, af, o8, s8, t1, t2, t3, t4, t5, t6⟩ := stnew2 o6 (ty := 53) hZ hBl hB1 info_hdr hZF (B2 := [.int .i64 0, .int .i64 0]) rfl (by intro v hv; simp only [List.mem_cons, List.not_mem_nil, or_false] at hv; rcases hv with rfl | rfl <;> rfl) info_fault2 (q := q + 2) (q2 := q + 3) (Nat.succ_ne_zero _) (Nat.succ_ne_zero _)
    obtain ⟨xb, hxb⟩ : ∃ b, w6.heap.size = b := ⟨_, rfl⟩
    rw [hxb] at hW7 hW8 am af t1 t4
    obtain ⟨xi, xr, xs, ha3⟩ := X5.out
    have yf0 := af.get (i := 0) rfl
    have yf1 := af.get (i := 1) rfl
    have xr8 := (xr.kn s6).kn s8
    have ht0 := xr8.there (o := 0) (n := B.toArray.size) o8 (Nat.succ_ne_zero q) (by simp [hBl, hZ])
    have hil : (Tryz.prog.info? 53).map (·.size) = some B.length := by rw [info_hdr, hBl]
    obtain ⟨_, a9⟩ := xr8.st o8 (Nat.succ_ne_zero q) (ty := 53) (us := B) (by rw [hBl, hZ]) hil hB1
    have s9 : Step (One (q + 1)) c8 W8 c8 (W8.setCells rb 0 B) := Step.setCells (K := One (q + 1)) (.inr xr8.col) _ _ _ Step.refl
    have o9 := Ok.setCells (b := rb) B 0 _ o8
    have q9 := HD.out.2 _ _ _ _ _ _ (HD.out.2 _ _ _ _ _ _ q6 s8 (fun h => h)) s9 (show ¬ 0 = q + 1 by omega)
    have i9 := ((xi.kn s6).kn s8).keep s9 (show ¬ k = q + 1 by omega) (show ¬ 0 = q + 1 by omega)
    have sAll : Step (One k) c w c8 (W8.setCells rb 0 B) := ((((xs.trans s6.ofNo).trans s8.ofNo).mono (K' := fun j => j = k ∨ j = q + 1) fun j (e : j = k) => .inl e).trans (s9.mono fun j (e : j = q + 1) => .inr e)).drop fun b _ e => by have := hqc b; rcases e with e | e; exact e; omega
    rw [← ha3] at i9
    have F := Lib.hid (And.intro q9 (And.intro i9 (And.intro sAll (And.intro o9 (And.intro a9.cells (And.intro am.cells (And.intro hil ht0)))))))
    have T := Lib.hid (And.intro t1 (And.intro t2 (And.intro t3 (And.intro t4 (And.intro t5 (And.intro t6 (And.intro zH (And.intro zF (And.intro hW7 hW8)))))))))
    clear DC X5 q6 s6 o6 hBl hB1 hZ zH hqc hZF zF hW7 hW8 am af o8 s8 t1 t2 t3 t4 t5 t6 xi xr xs ha3 xr8 ht0 hil a9 s9 o9 q9 i9 sAll
    go_wp2_with (first | (refine wpList_alloc_zero rfl (some 11) rfl 53 rfl T.out.2.2.2.2.2.2.1 ?_; rw [hxb]) | (refine wpList_alloc_zero rfl (some 12) rfl 74 rfl T.out.2.2.2.2.2.2.2.1 ?_; rw [World.size_alloc, hxb]) | (refine wpList_store_mid rfl 53 _ _ rfl xb 0 B.toArray rfl rfl T.out.1 T.out.2.1 T.out.2.2.1 ?_; rw [T.out.2.2.2.2.2.2.2.2.1]) | (refine wpList_store_mid rfl 74 _ _ rfl (xb + 1) 0 _ rfl rfl T.out.2.2.2.1 T.out.2.2.2.2.1 T.out.2.2.2.2.2.1 ?_; rw [T.out.2.2.2.2.2.2.2.2.2]) | (refine wpList_load_mid rfl 53 _ rfl xb 0 rfl B _ F.out.2.2.2.2.2.1 Tryz.underlying53 rfl F.out.2.2.2.2.2.2.1 ?_) | (refine wpList_store_mid rfl 53 _ _ rfl rb 0 B.toArray rfl rfl F.out.2.2.2.2.2.2.2 T.out.2.1 T.out.2.2.1 ?_))
    refine bodyPost_ret (results_cell_mid rfl _ _ rb 0 B _ rfl F.out.2.2.2.2.1 Tryz.underlying53 rfl F.out.2.2.2.2.2.2.1) rfl ⟨_, rfl, c8, F.out.1, F.out.2.1, F.out.2.2.1, F.out.2.2.2.1⟩

set_option maxRecDepth 100000 in
set_option maxHeartbeats 6400000 in
theorem partC_any (hok : Ok c w) {k p : Nat} (hk0 : k ≠ 0) {bs : List UInt8} {a : Nat} (hr : IsRd c k w p bs a (0, 0)) {fb kf : Nat} (hf : At c w fb kf [.int .i64 0, .int .i64 0]) (hkf : ¬ kf = k)
    {d : Nat} {E rest : List UInt8} {Q : Col → World → Value → Prop} (D : DecT d E Q) (QC : DecC Q 34) (hb : bs.drop a = numB E.length ++ (E ++ rest)) (hsm : E.length ≤ 60000) :
    Calls Tryz.prog 105 #[.pointer (some ⟨p, 0, none⟩), .int .i64 bs.length, .pointer (some ⟨fb, 0, none⟩), .func (.func d) #[] #[]] w fun r w' => ∃ x, r = .returned x ∧
      ∃ c', Q c' w' x ∧ IsRd c' k w' p bs (a + (numB E.length ++ E).length) (0, 0) ∧ Step (One k) c w c' w' ∧ Ok c' w' := by
  obtain ⟨q, hq, hqc⟩ := hok.top (k + kf)
  obtain ⟨Z, hZ, zH⟩ := zero_commit
  obtain ⟨ar, or_, sr⟩ := newAt hok Z 56 (q + 1)
  obtain ⟨rb, hrb⟩ : ∃ b, w.heap.size = b := ⟨_, rfl⟩
  rw [hrb] at ar or_ sr
  obtain ⟨W1, hW1⟩ : ∃ W, w.alloc (.cells Z.toArray 56) = W := ⟨_, rfl⟩
  rw [hW1] at ar or_ sr
  have hf1 := hf.kn sr
  have y0 := hf1.get (i := 0) rfl
  have y1 := hf1.get (i := 1) rfl
  have hr1 := hr.kn sr
  have RS := rest_ok hr1 rfl
  have X := Lib.hid (And.intro ar (And.intro hf1 (And.intro hr1 (And.intro sr or_))))
  have HB := Lib.hid (And.intro hZ (And.intro zH (And.intro hqc (And.intro hb hsm))))
  have hcf := D.1
  have HD := Lib.hid D.2
  clear ar or_ sr hf1 hr1 hok hr hf hqc hZ zH hb hsm D
  go_enter Tryz.func105, Tryz.ntmps105
  go_wp2_with (refine wpList_alloc_zero rfl (some 8) rfl 56 rfl HB.out.2.1 ?_)
  (try rw [hW1])
  (try rw [hrb])
  with_reducible refine RS.mono ?_
  rintro e w2 ⟨rfl, n2, rfl⟩
  obtain ⟨xr, xf, xi, xs, xo⟩ := X.out
  have sd : Step No (c.put rb (q + 1)) W1 (c.put rb (q + 1)) (W1.drewN n2) := Step.rf.drewN n2
  have BY := Bytes_any (xo.drewN n2) (xi.kn sd) hk0 E rest (by have := HB.out.2.2.2.2; omega) HB.out.2.2.2.1 65536 (by have := HB.out.2.2.2.2; omega)
  have X2 := Lib.hid (And.intro (xr.kn sd) (And.intro (xf.kn sd) (xs.trans sd)))
  clear RS X xr xf xi xs xo sd y0 y1
  go_wp2_with fail
  with_reducible refine BY.mono ?_
  rintro e w3 ⟨v3, rfl, c3, ow3, i3, s3, o3⟩
  obtain ⟨va, vn, rfl, _⟩ := ow3.sl.form
  obtain ⟨a3, ha3⟩ : ∃ a3, a + (numB E.length ++ E).length = a3 := ⟨_, rfl⟩
  rw [ha3] at i3
  have RS := rest_ok i3 rfl
  have hle := i3.le
  obtain ⟨xr, xf, xs⟩ := X2.out
  have X3 := Lib.hid (And.intro (xr.keep s3 (show ¬ q + 1 = k by omega)) (And.intro (xf.keep s3 hkf) (And.intro (xs.ofNo.trans s3) (And.intro ow3 (And.intro i3 (And.intro o3 (And.intro ha3 hle)))))))
  clear BY X2 xr xf xs s3 ow3 i3 o3 ha3
  go_wp2_with fail
  with_reducible refine RS.mono ?_
  rintro e w4 ⟨rfl, n4, rfl⟩
  obtain ⟨xr, xf, xs, xw, xi, xo, ha3, _⟩ := X3.out
  have sd : Step No c3 w3 c3 (w3.drewN n4) := Step.rf.drewN n4
  have xi4 := xi.kn sd
  have xo4 : Ok c3 (w3.drewN n4) := xo.drewN n4
  have xw4 := xw.kn sd
  have xr4 := xr.kn sd
  have xs4 := xs.trans sd.ofNo
  obtain ⟨W4, hW4⟩ : ∃ W, w3.drewN n4 = W := ⟨_, rfl⟩
  rw [hW4] at xi4 xo4 xw4 xr4 xs4 ⊢
  have EN := end_any xo4 xi4
  by_cases hz : bs.length = a3
  · have h0 : ((bs.length : Int) - (a3 : Int) == 0) = true := by simp; omega
    have h0' : (bs.length : Int) - (a3 : Int) = 0 := by omega
    rw [endF_all (by omega)] at EN
    have X4 := Lib.hid (And.intro xi4 (And.intro xw4 (And.intro xr4 (And.intro xs4 ha3))))
    clear RS X3 xr xf xs xw xi xo ha3 sd xi4 xo4 xw4 xr4 xs4 hz
    go_wp2_with fail
    with_reducible refine EN.mono ?_
    rintro e w5 ⟨rfl, c5, s5, o5⟩
    obtain ⟨xi, xw, xr, xs, ha3⟩ := X4.out
    have DC := HD.out.1 c5 w5 0 _ o5 (xw.kn s5).sl
    have X5 := Lib.hid (And.intro (xi.kn s5) (And.intro (xr.kn s5) (And.intro (xs.trans s5.ofNo) ha3)))
    clear EN X4 xi xw xr xs ha3 s5 o5
    go_wp2_with fail
    with_reducible refine DC.mono ?_
    rintro e w6 ⟨x, rfl, c6, q6, s6, o6⟩
    obtain ⟨B, rfl, hBl, hB1⟩ := QC c6 w6 x q6
    obtain ⟨hZ, zH, hqc, _, _⟩ := HB.out
    obtain ⟨ZF, hZF, zF⟩ := zero_fault
    obtain ⟨W7, W8, c8, hW7, hW8, am, af, o8, s8, t1, t2, t3, t4, t5, t6⟩ := stnew2 o6 (ty := 56) hZ hBl hB1 info_cmt hZF (B2 := [.int .i64 0, .int .i64 0]) rfl (by intro v hv; simp only [List.mem_cons, List.not_mem_nil, or_false] at hv; rcases hv with rfl | rfl <;> rfl) info_fault2 (q := q + 2) (q2 := q + 3) (Nat.succ_ne_zero _) (Nat.succ_ne_zero _)
    obtain ⟨xb, hxb⟩ : ∃ b, w6.heap.size = b := ⟨_, rfl⟩
    rw [hxb] at hW7 hW8 am af t1 t4
    obtain ⟨xi, xr, xs, ha3⟩ := X5.out
    have yf0 := af.get (i := 0) rfl
    have yf1 := af.get (i := 1) rfl
    have xr8 := (xr.kn s6).kn s8
    have ht0 := xr8.there (o := 0) (n := B.toArray.size) o8 (Nat.succ_ne_zero q) (by simp [hBl, hZ])
    have hil : (Tryz.prog.info? 56).map (·.size) = some B.length := by rw [info_cmt, hBl]
    obtain ⟨_, a9⟩ := xr8.st o8 (Nat.succ_ne_zero q) (ty := 56) (us := B) (by rw [hBl, hZ]) hil hB1
    have s9 : Step (One (q + 1)) c8 W8 c8 (W8.setCells rb 0 B) := Step.setCells (K := One (q + 1)) (.inr xr8.col) _ _ _ Step.refl
    have o9 := Ok.setCells (b := rb) B 0 _ o8
    have q9 := HD.out.2 _ _ _ _ _ _ (HD.out.2 _ _ _ _ _ _ q6 s8 (fun h => h)) s9 (show ¬ 0 = q + 1 by omega)
    have i9 := ((xi.kn s6).kn s8).keep s9 (show ¬ k = q + 1 by omega) (show ¬ 0 = q + 1 by omega)
    have sAll : Step (One k) c w c8 (W8.setCells rb 0 B) := ((((xs.trans s6.ofNo).trans s8.ofNo).mono (K' := fun j => j = k ∨ j = q + 1) fun j (e : j = k) => .inl e).trans (s9.mono fun j (e : j = q + 1) => .inr e)).drop fun b _ e => by have := hqc b; rcases e with e | e; exact e; omega
    rw [← ha3] at i9
    have F := Lib.hid (And.intro q9 (And.intro i9 (And.intro sAll (And.intro o9 (And.intro a9.cells (And.intro am.cells (And.intro hil ht0)))))))
    have T := Lib.hid (And.intro t1 (And.intro t2 (And.intro t3 (And.intro t4 (And.intro t5 (And.intro t6 (And.intro zH (And.intro zF (And.intro hW7 hW8)))))))))
    clear DC X5 q6 s6 o6 hBl hB1 hZ zH hqc hZF zF hW7 hW8 am af o8 s8 t1 t2 t3 t4 t5 t6 xi xr xs ha3 xr8 ht0 hil a9 s9 o9 q9 i9 sAll
    go_wp2_with (first | (refine wpList_alloc_zero rfl (some 11) rfl 56 rfl T.out.2.2.2.2.2.2.1 ?_; rw [hxb]) | (refine wpList_alloc_zero rfl (some 12) rfl 74 rfl T.out.2.2.2.2.2.2.2.1 ?_; rw [World.size_alloc, hxb]) | (refine wpList_store_mid rfl 56 _ _ rfl xb 0 B.toArray rfl rfl T.out.1 T.out.2.1 T.out.2.2.1 ?_; rw [T.out.2.2.2.2.2.2.2.2.1]) | (refine wpList_store_mid rfl 74 _ _ rfl (xb + 1) 0 _ rfl rfl T.out.2.2.2.1 T.out.2.2.2.2.1 T.out.2.2.2.2.2.1 ?_; rw [T.out.2.2.2.2.2.2.2.2.2]) | (refine wpList_load_mid rfl 56 _ rfl xb 0 rfl B _ F.out.2.2.2.2.2.1 Tryz.underlying56 rfl F.out.2.2.2.2.2.2.1 ?_) | (refine wpList_store_mid rfl 56 _ _ rfl rb 0 B.toArray rfl rfl F.out.2.2.2.2.2.2.2 T.out.2.1 T.out.2.2.1 ?_))
    refine bodyPost_ret (results_cell_mid rfl _ _ rb 0 B _ rfl F.out.2.2.2.2.1 Tryz.underlying56 rfl F.out.2.2.2.2.2.2.1) rfl ⟨_, rfl, c8, F.out.1, F.out.2.1, F.out.2.2.1, F.out.2.2.2.1⟩
  · have h0 : ((bs.length : Int) - (a3 : Int) == 0) = false := by simp; omega
    have h0' : ¬ (bs.length : Int) - (a3 : Int) = 0 := by omega
    have DC := HD.out.1 c3 W4 0 _ xo4 xw4.sl
    have X5 := Lib.hid (And.intro xi4 (And.intro xr4 (And.intro xs4 ha3)))
    clear RS EN X3 xr xf xs xw xi xo ha3 sd xi4 xo4 xw4 xr4 xs4 hz
    go_wp2_with fail
    with_reducible refine DC.mono ?_
    rintro e w6 ⟨x, rfl, c6, q6, s6, o6⟩
    obtain ⟨B, rfl, hBl, hB1⟩ := QC c6 w6 x q6
    obtain ⟨hZ, zH, hqc, _, _⟩ := HB.out
    obtain ⟨ZF, hZF, zF⟩ := zero_fault
    obtain ⟨W7, W8, c8, hW7, hW8, am, af, o8, s8, t1, t2, t3, t4, t5, t6⟩ := stnew2 o6 (ty := 56) hZ hBl hB1 info_cmt hZF (B2 := [.int .i64 0, .int .i64 0]) rfl (by intro v hv; simp only [List.mem_cons, List.not_mem_nil, or_false] at hv; rcases hv with rfl | rfl <;> rfl) info_fault2 (q := q + 2) (q2 := q + 3) (Nat.succ_ne_zero _) (Nat.succ_ne_zero _)
    obtain ⟨xb, hxb⟩ : ∃ b, w6.heap.size = b := ⟨_, rfl⟩
    rw [hxb] at hW7 hW8 am af t1 t4
    obtain ⟨xi, xr, xs, ha3⟩ := X5.out
    have yf0 := af.get (i := 0) rfl
    have yf1 := af.get (i := 1) rfl
    have xr8 := (xr.kn s6).kn s8
    have ht0 := xr8.there (o := 0) (n := B.toArray.size) o8 (Nat.succ_ne_zero q) (by simp [hBl, hZ])
    have hil : (Tryz.prog.info? 56).map (·.size) = some B.length := by rw [info_cmt, hBl]
    obtain ⟨_, a9⟩ := xr8.st o8 (Nat.succ_ne_zero q) (ty := 56) (us := B) (by rw [hBl, hZ]) hil hB1
    have s9 : Step (One (q + 1)) c8 W8 c8 (W8.setCells rb 0 B) := Step.setCells (K := One (q + 1)) (.inr xr8.col) _ _ _ Step.refl
    have o9 := Ok.setCells (b := rb) B 0 _ o8
    have q9 := HD.out.2 _ _ _ _ _ _ (HD.out.2 _ _ _ _ _ _ q6 s8 (fun h => h)) s9 (show ¬ 0 = q + 1 by omega)
    have i9 := ((xi.kn s6).kn s8).keep s9 (show ¬ k = q + 1 by omega) (show ¬ 0 = q + 1 by omega)
    have sAll : Step (One k) c w c8 (W8.setCells rb 0 B) := ((((xs.trans s6.ofNo).trans s8.ofNo).mono (K' := fun j => j = k ∨ j = q + 1) fun j (e : j = k) => .inl e).trans (s9.mono fun j (e : j = q + 1) => .inr e)).drop fun b _ e => by have := hqc b; rcases e with e | e; exact e; omega
    rw [← ha3] at i9
    have F := Lib.hid (And.intro q9 (And.intro i9 (And.intro sAll (And.intro o9 (And.intro a9.cells (And.intro am.cells (And.intro hil ht0)))))))
    have T := Lib.hid (And.intro t1 (And.intro t2 (And.intro t3 (And.intro t4 (And.intro t5 (And.intro t6 (And.intro zH (And.intro zF (And.intro hW7 hW8)))))))))
    clear DC X5 q6 s6 o6 hBl hB1 hZ zH hqc hZF zF hW7 hW8 am af o8 s8 t1 t2 t3 t4 t5 t6 xi xr xs ha3 xr8 ht0 hil a9 s9 o9 q9 i9 sAll
    go_wp2_with (first | (refine wpList_alloc_zero rfl (some 11) rfl 56 rfl T.out.2.2.2.2.2.2.1 ?_; rw [hxb]) | (refine wpList_alloc_zero rfl (some 12) rfl 74 rfl T.out.2.2.2.2.2.2.2.1 ?_; rw [World.size_alloc, hxb]) | (refine wpList_store_mid rfl 56 _ _ rfl xb 0 B.toArray rfl rfl T.out.1 T.out.2.1 T.out.2.2.1 ?_; rw [T.out.2.2.2.2.2.2.2.2.1]) | (refine wpList_store_mid rfl 74 _ _ rfl (xb + 1) 0 _ rfl rfl T.out.2.2.2.1 T.out.2.2.2.2.1 T.out.2.2.2.2.2.1 ?_; rw [T.out.2.2.2.2.2.2.2.2.2]) | (refine wpList_load_mid rfl 56 _ rfl xb 0 rfl B _ F.out.2.2.2.2.2.1 Tryz.underlying56 rfl F.out.2.2.2.2.2.2.1 ?_) | (refine wpList_store_mid rfl 56 _ _ rfl rb 0 B.toArray rfl rfl F.out.2.2.2.2.2.2.2 T.out.2.1 T.out.2.2.1 ?_))
    refine bodyPost_ret (results_cell_mid rfl _ _ rb 0 B _ rfl F.out.2.2.2.2.1 Tryz.underlying56 rfl F.out.2.2.2.2.2.2.1) rfl ⟨_, rfl, c8, F.out.1, F.out.2.1, F.out.2.2.1, F.out.2.2.2.1⟩
end
end Go.Proofs.YtgcobbapaaihiaaGreat

set_option linter.unusedVariables false
set_option linter.unusedSimpArgs false
namespace Go.Proofs.YtgcobbapaaihiaaGreat
open Go.RowKit

section
variable {c : Col} {w : World}

set_option maxRecDepth 100000 in
set_option maxHeartbeats 6400000 in
theorem partV_any (hok : Ok c w) {k p : Nat} (hk0 : k ≠ 0) {bs : List UInt8} {a : Nat} (hr : IsRd c k w p bs a (0, 0)) {fb kf : Nat} (hf : At c w fb kf [.int .i64 0, .int .i64 0]) (hkf : ¬ kf = k)
    {d : Nat} {E rest : List UInt8} {Q : Col → World → Value → Prop} (D : DecT d E Q) (hb : bs.drop a = numB E.length ++ (E ++ rest)) (hsm : E.length ≤ 60000) :
    Calls Tryz.prog 107 #[.pointer (some ⟨p, 0, none⟩), .int .i64 bs.length, .pointer (some ⟨fb, 0, none⟩), .func (.func d) #[] #[]] w fun r w' => ∃ x, r = .returned x ∧
      ∃ c', Q c' w' x ∧ IsRd c' k w' p bs (a + (numB E.length ++ E).length) (0, 0) ∧ Step (One k) c w c' w' ∧ Ok c' w' := by
  have y0 := hf.get (i := 0) rfl
  have y1 := hf.get (i := 1) rfl
  have RS := rest_ok hr rfl
  have X := Lib.hid (And.intro hf (And.intro hr hok))
  have HB := Lib.hid (And.intro hb hsm)
  have hcf := D.1
  have HD := Lib.hid D.2
  clear hok hr hf hb hsm D
  go_enter Tryz.func107, Tryz.ntmps107
  go_wp2_with fail
  with_reducible refine RS.mono ?_
  rintro e w2 ⟨rfl, n2, rfl⟩
  obtain ⟨xf, xi, xo⟩ := X.out
  have sd : Step No c w c (w.drewN n2) := Step.rf.drewN n2
  have BY := Bytes_any (xo.drewN n2) (xi.kn sd) hk0 E rest (by have := HB.out.2; omega) HB.out.1 65536 (by have := HB.out.2; omega)
  have X2 := Lib.hid (And.intro (xf.kn sd) sd)
  clear RS X xf xi xo sd y0 y1
  go_wp2_with fail
  with_reducible refine BY.mono ?_
  rintro e w3 ⟨v3, rfl, c3, ow3, i3, s3, o3⟩
  obtain ⟨va, vn, rfl, _⟩ := ow3.sl.form
  obtain ⟨a3, ha3⟩ : ∃ a3, a + (numB E.length ++ E).length = a3 := ⟨_, rfl⟩
  rw [ha3] at i3
  have RS := rest_ok i3 rfl
  have hle := i3.le
  obtain ⟨xf, xs⟩ := X2.out
  have X3 := Lib.hid (And.intro (xs.ofNo.trans s3) (And.intro ow3 (And.intro i3 (And.intro o3 (And.intro ha3 hle)))))
  clear BY X2 xf xs s3 ow3 i3 o3 ha3
  go_wp2_with fail
  with_reducible refine RS.mono ?_
  rintro e w4 ⟨rfl, n4, rfl⟩
  obtain ⟨xs, xw, xi, xo, ha3, _⟩ := X3.out
  have sd : Step No c3 w3 c3 (w3.drewN n4) := Step.rf.drewN n4
  have xi4 := xi.kn sd
  have xo4 : Ok c3 (w3.drewN n4) := xo.drewN n4
  have xw4 := xw.kn sd
  have xs4 := xs.trans sd.ofNo
  obtain ⟨W4, hW4⟩ : ∃ W, w3.drewN n4 = W := ⟨_, rfl⟩
  rw [hW4] at xi4 xo4 xw4 xs4 ⊢
  have EN := end_any xo4 xi4
  by_cases hz : bs.length = a3
  · have h0 : ((bs.length : Int) - (a3 : Int) == 0) = true := by simp; omega
    have h0' : (bs.length : Int) - (a3 : Int) = 0 := by omega
    rw [endF_all (by omega)] at EN
    have X4 := Lib.hid (And.intro xi4 (And.intro xw4 (And.intro xs4 ha3)))
    clear RS X3 xs xw xi xo ha3 sd xi4 xo4 xw4 xs4 hz
    go_wp2_with fail
    with_reducible refine EN.mono ?_
    rintro e w5 ⟨rfl, c5, s5, o5⟩
    obtain ⟨xi, xw, xs, ha3⟩ := X4.out
    have DC := HD.out.1 c5 w5 0 _ o5 (xw.kn s5).sl
    have X5 := Lib.hid (And.intro (xi.kn s5) (And.intro (xs.trans s5.ofNo) ha3))
    clear EN X4 xi xw xs ha3 s5 o5
    go_wp2_with fail
    with_reducible refine DC.mono ?_
    rintro e w6 ⟨x, rfl, c6, q6, s6, o6⟩
    obtain ⟨xi, xs, ha3⟩ := X5.out
    have sf : Step No c6 w6 c6 (w6.alloc (.cells #[.int .i64 0, .int .i64 0] 74)) := Step.refl.alloc _
    have of_ := o6.alloc (.cells #[.int .i64 0, .int .i64 0] 74)
    have i9 := (xi.kn s6).kn sf
    rw [← ha3] at i9
    have F := Lib.hid (And.intro (HD.out.2 _ _ _ _ _ _ q6 sf (fun h => h)) (And.intro i9 (And.intro ((xs.trans s6.ofNo).trans sf.ofNo) of_)))
    clear DC X5 q6 s6 o6 xi xs ha3 sf of_ i9
    go_wp2_with fail
    go_ret
    exact ⟨_, rfl, c6, F.out⟩
  · have h0 : ((bs.length : Int) - (a3 : Int) == 0) = false := by simp; omega
    have h0' : ¬ (bs.length : Int) - (a3 : Int) = 0 := by omega
    have DC := HD.out.1 c3 W4 0 _ xo4 xw4.sl
    have X5 := Lib.hid (And.intro xi4 (And.intro xs4 ha3))
    clear RS EN X3 xs xw xi xo ha3 sd xi4 xo4 xw4 xs4 hz
    go_wp2_with fail
    with_reducible refine DC.mono ?_
    rintro e w6 ⟨x, rfl, c6, q6, s6, o6⟩
    obtain ⟨xi, xs, ha3⟩ := X5.out
    have sf : Step No c6 w6 c6 (w6.alloc (.cells #[.int .i64 0, .int .i64 0] 74)) := Step.refl.alloc _
    have of_ := o6.alloc (.cells #[.int .i64 0, .int .i64 0] 74)
    have i9 := (xi.kn s6).kn sf
    rw [← ha3] at i9
    have F := Lib.hid (And.intro (HD.out.2 _ _ _ _ _ _ q6 sf (fun h => h)) (And.intro i9 (And.intro ((xs.trans s6.ofNo).trans sf.ofNo) of_)))
    clear DC X5 q6 s6 o6 xi xs ha3 sf of_ i9
    go_wp2_with fail
    go_ret
    exact ⟨_, rfl, c6, F.out⟩

theorem decH (h : Hdr) (hw : h.Wf) (hc : checkH h = 0) : DecT 104 (encH h) (fun _ _ x => x = .agg (hdrC h).toArray) ∧ DecC (fun _ _ x => x = .agg (hdrC h).toArray) 131 :=
  ⟨⟨enters_of Tryz.func104 (by kernel_rfl) rfl, fun c w kx v ho hs => (headerD_ok ho h hw hc hs).mono (by rintro r w' ⟨rfl, c', st, o⟩; exact ⟨_, rfl, c', rfl, st, o⟩), fun _ _ _ _ _ _ h _ _ => h⟩,
    fun _ _ _ hx => ⟨_, hx, hdrC_len hw, hdrC_one h⟩⟩
def cmQ (ht : Int) (y : List UInt8) (c : Col) (w : World) (x : Value) : Prop := ∃ (s : Nat) (u : Value), x = .agg (cmCells ht y u).toArray ∧ Sl TVot c 0 0 w u [⟨0, s⟩]
theorem decCm {ht : Int} (hh : heightB ht = true) {y wd : List UInt8} (hy : y.length = 32) (hwd : wd.length = 8) : DecT 106 (encC1 ht y wd) (cmQ ht y) ∧ DecC (cmQ ht y) 34 :=
  ⟨⟨enters_of Tryz.func106 (by kernel_rfl) rfl, fun c w kx v ho hs => (commitD_ok ho hh hy hwd hs).mono (by rintro r w' ⟨s, x, rfl, c', sl, st, o⟩; exact ⟨_, rfl, c', ⟨s, x, rfl, sl⟩, st, o⟩), by rintro K c w c' w' x ⟨s, u, rfl, sl⟩ st h0; exact ⟨s, u, rfl, sl.keep st h0 h0⟩⟩, by
    rintro c w x ⟨s, u, rfl, sl⟩
    obtain ⟨va, vn, rfl, _⟩ := sl.form
    exact ⟨_, rfl, cmCells_len ht hy _, cmC_one (x := ⟨ht, y, []⟩) rfl⟩⟩
theorem decV : DecT 108 (encV l1) (fun c w x => Sl TVal c 0 0 w x l1) :=
  ⟨enters_of Tryz.func108 (by kernel_rfl) rfl, fun c w kx v ho hs => (valsD_ok ho hs).mono (by rintro r w' ⟨x, rfl, c', sl, st, o⟩; exact ⟨_, rfl, c', sl, st, o⟩), fun K c w c' w' x sl st h0 => sl.keep st h0 h0⟩
end
end Go.Proofs.YtgcobbapaaihiaaGreat
