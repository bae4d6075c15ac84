/- ServerTurns, part 07: lemmas, each with its own conditions. -/
import Derived.Test.YtgcobbapaaihiaaGreatSt02
import Derived.Test.YtgcobbapaaihiaaGreatSt03
import Derived.Test.YtgcobbapaaihiaaGreatSt04
import Derived.Test.YtgcobbapaaihiaaGreatSt05
import Derived.Test.YtgcobbapaaihiaaGreatSt06
import Derived.Lib.BytesEntry
import Derived.Lib.Bytealg
import Derived.Laws.Externs
set_option linter.unusedVariables false
set_option linter.unusedSimpArgs false
namespace Go.Proofs.YtgcobbapaaihiaaGreat
open Go.RowKit

section
variable {P : Program}
/-- A store of many cells, as a step of a region that draws its order. -/
theorem step_store {ops : Array Oper} {o : Oper} {a : Act} {w : World} {K : Act → World → Prop} {Q : Exit → Act → World → Prop} {E : Prop} (hgd : o.guard = none) (ty : TypeId) (x y : Operand) (ho : o.op = .store ty x y)
    (b off : Nat) (cells : Array Value) (hx : a.eval x = .pointer (some ⟨b, off, none⟩)) (hy : a.eval y = .agg cells)
    (ht : w.there b off cells.size) (hi : (P.info? ty).map (·.size) = some cells.size) (h1 : cells.all (·.oneCell') = true)
    (h : K (a.put o.dst undef) (w.setCells b off cells.toList)) : if Region.wanted o (yielded ops a.tmps) = true then Oper.wp P o a w K Q else E := by
  rw [if_pos (by simp [Region.wanted, hgd])]
  exact wp_store_mid ty x y ho b off cells hx hy ht hi h1 h
end

section
variable {c : Col} {w : World}

theorem hash11n (hok : Ok c w) {kx : Nat} {g off cap n : Nat} {l : List UInt8} (hn : n = 32) (h : Sl TByte c kx 0 w (.slice (some ⟨g, off, none⟩) n cap) l) :
    Calls Tryz.prog 169 #[.slice (some ⟨g, off, none⟩) n cap] w fun r w' => r = .returned (.agg (bC l).toArray) ∧ l.length = 32 ∧ ∃ c', Step No c w c' w' ∧ Ok c' w' := by
  subst hn
  exact hash11_any hok h

set_option maxRecDepth 100000 in
set_option maxHeartbeats 1600000 in
theorem take_hash (hok : Ok c w) {k p : Nat} {bs : List UInt8} {a : Nat} {f : Int × Int} (h : IsRd c k w p bs a f) (hk0 : k ≠ 0) (n : Nat) (hn : a + n ≤ bs.length) (hN : n = 32) (at0 : Int) :
    Calls Tryz.prog 168 #[.pointer (some ⟨p, 0, none⟩), .int .i64 n, .int .i64 at0, .func (.func 169) #[] #[]] w fun r w' => r = .returned (.agg (bC ((bs.drop a).take n)).toArray) ∧ ∃ c', IsRd c' k w' p bs (a + n) f ∧ Step (One k) c w c' w' ∧ Ok c' w' := by
  obtain ⟨q, hq, hqc⟩ := hok.spare k
  have hq0 : q ≠ 0 := by omega
  obtain ⟨a0, ok0, s00⟩ := newAt hok (bC (List.replicate 32 0)) 51 q
  have h0 := h.kn s00
  rw [show (bC (List.replicate 32 0)).toArray = #[.int .u8 0, .int .u8 0, .int .u8 0, .int .u8 0, .int .u8 0, .int .u8 0, .int .u8 0, .int .u8 0, .int .u8 0, .int .u8 0, .int .u8 0, .int .u8 0, .int .u8 0, .int .u8 0, .int .u8 0, .int .u8 0, .int .u8 0, .int .u8 0, .int .u8 0, .int .u8 0, .int .u8 0, .int .u8 0, .int .u8 0, .int .u8 0, .int .u8 0, .int .u8 0, .int .u8 0, .int .u8 0, .int .u8 0, .int .u8 0, .int .u8 0, .int .u8 0] from rfl] at a0 ok0 s00 h0
  obtain ⟨w0, hw0⟩ : ∃ w0, w.alloc (.cells #[.int .u8 0, .int .u8 0, .int .u8 0, .int .u8 0, .int .u8 0, .int .u8 0, .int .u8 0, .int .u8 0, .int .u8 0, .int .u8 0, .int .u8 0, .int .u8 0, .int .u8 0, .int .u8 0, .int .u8 0, .int .u8 0, .int .u8 0, .int .u8 0, .int .u8 0, .int .u8 0, .int .u8 0, .int .u8 0, .int .u8 0, .int .u8 0, .int .u8 0, .int .u8 0, .int .u8 0, .int .u8 0, .int .u8 0, .int .u8 0, .int .u8 0, .int .u8 0] 51) = w0 := ⟨_, rfl⟩
  obtain ⟨c0, hc0⟩ : ∃ c0, c.put w.heap.size q = c0 := ⟨_, rfl⟩
  obtain ⟨b0, hbe⟩ : ∃ b0, w.heap.size = b0 := ⟨_, rfl⟩
  have hb0 : w.heap.size ≤ b0 := by omega
  rw [hw0, hc0] at a0 ok0 s00 h0
  rw [hbe] at a0
  have hpb : p ≠ b0 := fun e => by
    obtain ⟨_, xx, _⟩ := h0.row
    have e1 := xx.col
    have e2 := a0.col
    rw [e, e2] at e1
    omega
  have S00 := Lib.hid s00
  have HN := Lib.hid hN
  clear s00 h hok hqc hc0 hN
  obtain ⟨bv, x, ow⟩ := h0.row
  have hle := h0.le
  have hfew := h0.few
  obtain ⟨va, vc, hbv, hcap, hcase⟩ : ∃ va vc, bv = .slice va bs.length vc ∧ bs.length ≤ vc ∧ ((va = none ∧ vc = 0) ∨ ∃ g, va = some ⟨g, 0, none⟩) := by
    rcases ow.form2 with ⟨rfl, rfl⟩ | ⟨g, cap, rfl, hc⟩
    · exact ⟨none, 0, rfl, Nat.le_refl _, .inl ⟨rfl, rfl⟩⟩
    · exact ⟨_, cap, rfl, hc, .inr ⟨g, rfl⟩⟩
  subst hbv
  have y0 := x.get (i := 0) rfl
  have y1 := x.get (i := 1) rfl
  have y1f := x.fz ok0 hk0 1
  have hcp : c0 p = k := x.col
  have hd : decide ((n : Int) ≤ (bs.length : Int) - (a : Int)) = true := by simp; omega
  have hw : IntKind.i64.wrap ((bs.length : Int) - (a : Int)) = (bs.length : Int) - (a : Int) := IntWalk.i64_in _ (by omega)
  have hw2 : IntKind.i64.wrap ((a : Int) + (n : Int)) = (a : Int) + (n : Int) := IntWalk.i64_in _ (by omega)
  have hw3 : IntKind.i64.wrap (a : Int) = (a : Int) := IntWalk.i64_in _ (by omega)
  have ht : ((a : Int) + (n : Int)).toNat - a = n := by omega
  have ha0 : (0 : Int) ≤ (a : Int) := by omega
  have ha1 : (a : Int) ≤ (a : Int) + (n : Int) := by omega
  have ha2 : (a : Int) + (n : Int) ≤ (vc : Int) := by omega
  have M := must_yes w0.drew 6 at0
  have m1 := h0.move hk0 (a' := a + n) hn
  rw [Int.natCast_add] at m1
  have z0 : (w0.setCell ⟨p, 1, none⟩ (.int .i64 ((a : Int) + (n : Int)))).drew.drew.cell? ⟨p, 0, none⟩ = some (.slice va bs.length vc) := by
    show (w0.setCell ⟨p, 1, none⟩ (.int .i64 ((a : Int) + (n : Int)))).cell? ⟨p, 0, none⟩ = _
    rw [World.cell?_setCell_other _ _ _ _ (by intro e; injection e with e1 e2; cases e2)]; exact y0
  have z1 : (w0.setCell ⟨p, 1, none⟩ (.int .i64 ((a : Int) + (n : Int)))).drew.drew.cell? ⟨p, 1, none⟩ = some (.int .i64 ((a : Int) + (n : Int))) :=
    World.cell?_setCell_same' _ _ _ (by rw [y1]; rfl)
  have s1 : Step (One k) c0 w0 c0 ((w0.setCell ⟨p, 1, none⟩ (.int .i64 ((a : Int) + (n : Int)))).drewN 2) := ((Step.refl (K := One k)).setCell (a := ⟨p, 1, none⟩) (.inr x.col) _).drewN 2
  have ok1 : Ok c0 ((w0.setCell ⟨p, 1, none⟩ (.int .i64 ((a : Int) + (n : Int)))).drewN 2) := (ok0.setCell _ _).drewN 2
  have ow1 : Own TByte 5 c0 0 0 ((w0.setCell ⟨p, 1, none⟩ (.int .i64 ((a : Int) + (n : Int)))).drewN 2) (.slice va bs.length vc) bs := (ow.set (a := ⟨p, 1, none⟩) (by show c0 p ≠ 0; omega) (by show c0 p ≠ 0; omega) _).kn (Step.rf.drewN 2)
  have hm2 := m1.kn (Step.rf.drewN 2)
  have HH := Lib.hid (And.intro hm2 s1)
  have OK := Lib.hid ok1
  have K1 : (fun W => W.cell? ⟨p, 0, none⟩ = some (.slice va bs.length vc) ∧ W.cell? ⟨p, 1, none⟩ = some (.int .i64 a)) w0.drew := ⟨y0, y1⟩
  by_cases hca : vc = a
  · exact absurd hca (by have := HN.out; omega)
  · obtain ⟨g, rfl⟩ : ∃ g, va = some ⟨g, 0, none⟩ := by
      rcases hcase with ⟨rfl, rfl⟩ | h0
      · exact absurd (by omega) hca
      · exact h0
    have HL := Lib.hid (show p < ((w0.setCell ⟨p, 1, none⟩ (.int .i64 ((a : Int) + (n : Int)))).drewN 2).heap.size by obtain ⟨_, xx, _⟩ := hm2.row; exact xx.lt)
    have A0 := Lib.hid (show At c0 ((w0.setCell ⟨p, 1, none⟩ (.int .i64 ((a : Int) + (n : Int)))).drewN 2) b0 q (bC (List.replicate 32 0)) from (a0.offC p 1 _ (fun e => hpb e.symm)).keep (Step.rf.drewN 2) (fun h0 => h0))
    have SL : Sl TByte c0 0 0 ((w0.setCell ⟨p, 1, none⟩ (.int .i64 ((a : Int) + (n : Int)))).drewN 2) (.slice (some ⟨g, a, none⟩) n (vc - a)) ((bs.drop a).take n) := by have := ow1.sl.sub a n hn; rwa [Nat.zero_add] at this
    have B := hash11n ok1 HN.out SL
    clear x ow ok0 h0 m1 hm2 s1 ok1 ow1 SL
    go_enter Tryz.func168, Tryz.ntmps168
    go_wp2_with fail
    (try rw [hw0])
    (try rw [hbe])
    refine region_planM (fun W => W.cell? ⟨p, 0, none⟩ = some (.slice (some ⟨g, 0, none⟩) bs.length vc) ∧ W.cell? ⟨p, 1, none⟩ = some (.int .i64 a)) (fun _ => true) (by kernel_rfl) ?_
    refine tk2 0 _ 9 rfl rfl K1 ?_
    refine tk2 1 _ 10 rfl rfl K1 ?_
    refine tk2 2 _ 11 rfl rfl K1 ?_
    refine tk2 3 _ 12 rfl rfl K1 ?_
    refine tk2 4 _ 13 rfl rfl K1 ?_
    refine tk2 5 _ 14 rfl rfl K1 ?_
    refine tk2 6 _ 15 rfl rfl K1 ?_
    refine tk2 7 _ 16 rfl rfl K1 ?_
    refine tk2 8 _ 17 rfl rfl K1 ?_
    refine tk2 9 _ 18 rfl rfl K1 ?_
    refine tk2 10 _ 19 rfl rfl K1 ?_
    refine tk2 11 (.bool true) 20 rfl rfl K1 ?_
    refine tk2 12 _ 21 rfl rfl K1 ?_
    refine wpAnyM.one (i := 13) (by kernel_rfl) rfl (fun KQ hK => ?_)
    go_simp
    refine M.mono ?_
    rintro e w1 ⟨rfl, rfl⟩
    refine hK.out _ _ (fun _ => K1) ?_
    clear hK KQ
    (try simp only [Act.put, List.setIfInBounds_toArray, List.set_cons_zero, List.set_cons_succ])
    refine wpAnyM.done (by kernel_rfl) ?_ _
    go_wp2_with fail
    clear y0 y1 K1 M hd hw
    have K2 : (fun W => W.cell? ⟨p, 0, none⟩ = some (.slice (some ⟨g, 0, none⟩) bs.length vc) ∧ W.cell? ⟨p, 1, none⟩ = some (.int .i64 ((a : Int) + (n : Int)))) (w0.setCell ⟨p, 1, none⟩ (.int .i64 ((a : Int) + (n : Int)))).drew.drew := ⟨z0, z1⟩
    refine region_planM (fun W => W.cell? ⟨p, 0, none⟩ = some (.slice (some ⟨g, 0, none⟩) bs.length vc) ∧ W.cell? ⟨p, 1, none⟩ = some (.int .i64 ((a : Int) + (n : Int)))) (fun _ => true) (by kernel_rfl) ?_
    refine tk2 0 _ 31 rfl rfl K2 ?_
    refine tk2 1 _ 32 rfl rfl K2 ?_
    refine tk2 2 _ 33 rfl rfl K2 ?_
    refine tk2 3 _ 34 rfl rfl K2 ?_
    refine tk2 4 _ 35 rfl rfl K2 ?_
    refine tk2 5 _ 36 rfl rfl K2 ?_
    refine tk2 6 _ 37 rfl rfl K2 ?_
    refine tk2 7 _ 38 rfl rfl K2 ?_
    refine tk2 8 _ 39 rfl rfl K2 ?_
    refine tk2 9 _ 40 rfl rfl K2 ?_
    refine tk2 10 (.int .i64 a) 41 rfl rfl K2 ?_
    refine tk2 11 _ 42 rfl rfl K2 ?_
    refine tk2 12 _ 43 rfl rfl K2 ?_
    refine tk2 13 _ 44 rfl rfl K2 ?_
    refine tk2 14 _ 45 rfl rfl K2 ?_
    refine tk2 15 (.slice (some ⟨g, a, none⟩) n (vc - a)) 46 rfl rfl K2 ?_
    refine wpAnyM.one (i := 16) (by kernel_rfl) rfl (fun KQ hK => ?_)
    go_simp
    refine B.mono ?_
    rintro e w1 ⟨rfl, hBl0, c2, s2, o2⟩
    have K3 : (fun W : World => W.cell? ⟨p, 0, none⟩ = some (.slice (some ⟨g, 0, none⟩) bs.length vc) ∧ W.cell? ⟨p, 1, none⟩ = some (.int .i64 ((a : Int) + (n : Int)))) w1 := ⟨(s2.cell HL.out (fun h0 => h0)).trans z0, (s2.cell HL.out (fun h0 => h0)).trans z1⟩
    obtain ⟨B, hB⟩ : ∃ B, bC ((bs.drop a).take n) = B := ⟨_, rfl⟩
    have hB1 : ∀ v ∈ B, v.oneCell' = true := by rw [← hB]; exact bC_one _
    have hBl : B.length = 32 := by rw [← hB, bC_len]; exact hBl0
    rw [hB]
    have a1 := A0.out.keep s2 (fun h0 => h0)
    have hi0 : (Tryz.prog.info? 51).map (·.size) = some B.length := by rw [info_hash, hBl]
    have hi1 : (Tryz.prog.info? 51).map (·.size) = some B.toArray.size := by rw [info_hash]; simp [hBl]
    have ht0 := a1.there (o := 0) (n := B.toArray.size) o2 hq0 (by simp [bC_len, hBl])
    obtain ⟨S0, a2⟩ := a1.st o2 hq0 (ty := 51) (us := B) (by simp [bC_len, hBl]) hi0 hB1
    have s3 : Step (One q) c2 w1 c2 (w1.setCells b0 0 B) := Step.setCells (.inr a1.col) _ _ _ Step.refl
    have K4 : (fun W : World => W.cell? ⟨p, 0, none⟩ = some (.slice (some ⟨g, 0, none⟩) bs.length vc) ∧ W.cell? ⟨p, 1, none⟩ = some (.int .i64 ((a : Int) + (n : Int)))) (w1.setCells b0 0 B) := ⟨(World.cell?_setCells_out b0 B 0 w1 ⟨p, 0, none⟩ (fun e _ => absurd e hpb)).trans K3.1, (World.cell?_setCells_out b0 B 0 w1 ⟨p, 1, none⟩ (fun e _ => absurd e hpb)).trans K3.2⟩
    have HX := Lib.hid (And.intro a2 (And.intro ((HH.out.1.kn s2).keep s3 (show ¬ k = q by omega) (show ¬ 0 = q by omega)) (And.intro (Step.setCells (.inl hb0) B 0 _ ((S00.out.ofNo.trans HH.out.2).trans s2.ofNo)) (And.intro (Ok.setCells (b := b0) B 0 _ o2) (And.intro hB (And.intro ht0 (And.intro hi0 (And.intro hi1 (all_oneCell_toArray hB1)))))))))
    clear a1 a2 s2 o2 s3 S0 hB hB1 hBl hBl0 ht0 hi0 hi1
    refine hK.out _ _ (fun _ => K3) ?_
    clear hK KQ
    (try simp only [Act.put, List.setIfInBounds_toArray, List.set_cons_zero, List.set_cons_succ])
    refine wpAnyM.one (i := 17) (by kernel_rfl) rfl (fun KQ hK => ?_)
    refine step_store rfl 51 _ _ rfl b0 0 B.toArray rfl rfl HX.out.2.2.2.2.2.1 HX.out.2.2.2.2.2.2.2.1 HX.out.2.2.2.2.2.2.2.2 ?_
    simp only [List.toList_toArray]
    refine hK.out _ _ (fun _ => K4) ?_
    clear hK KQ
    (try simp only [Act.put, List.setIfInBounds_toArray, List.set_cons_zero, List.set_cons_succ])
    refine wpAnyM.done (by kernel_rfl) ?_ _
    go_wp2_with fail
    refine bodyPost_ret (results_cell_mid rfl _ _ b0 0 B _ rfl HX.out.1.cells Tryz.underlying51 rfl HX.out.2.2.2.2.2.2.1) rfl ⟨by rw [HX.out.2.2.2.2.1], c2, HX.out.2.1, HX.out.2.2.1, HX.out.2.2.2.1⟩

theorem key11n (hok : Ok c w) {kx : Nat} {g off cap n : Nat} {l : List UInt8} (hn : n = 4) (h : Sl TByte c kx 0 w (.slice (some ⟨g, off, none⟩) n cap) l) :
    Calls Tryz.prog 177 #[.slice (some ⟨g, off, none⟩) n cap] w fun r w' => r = .returned (.agg (bC l).toArray) ∧ l.length = 4 ∧ ∃ c', Step No c w c' w' ∧ Ok c' w' := by
  subst hn
  exact key11_any hok h

set_option maxRecDepth 100000 in
set_option maxHeartbeats 1600000 in
theorem take_key (hok : Ok c w) {k p : Nat} {bs : List UInt8} {a : Nat} {f : Int × Int} (h : IsRd c k w p bs a f) (hk0 : k ≠ 0) (n : Nat) (hn : a + n ≤ bs.length) (hN : n = 4) (at0 : Int) :
    Calls Tryz.prog 176 #[.pointer (some ⟨p, 0, none⟩), .int .i64 n, .int .i64 at0, .func (.func 177) #[] #[]] w fun r w' => r = .returned (.agg (bC ((bs.drop a).take n)).toArray) ∧ ∃ c', IsRd c' k w' p bs (a + n) f ∧ Step (One k) c w c' w' ∧ Ok c' w' := by
  obtain ⟨q, hq, hqc⟩ := hok.spare k
  have hq0 : q ≠ 0 := by omega
  obtain ⟨a0, ok0, s00⟩ := newAt hok (bC (List.replicate 4 0)) 91 q
  have h0 := h.kn s00
  rw [show (bC (List.replicate 4 0)).toArray = #[.int .u8 0, .int .u8 0, .int .u8 0, .int .u8 0] from rfl] at a0 ok0 s00 h0
  obtain ⟨w0, hw0⟩ : ∃ w0, w.alloc (.cells #[.int .u8 0, .int .u8 0, .int .u8 0, .int .u8 0] 91) = w0 := ⟨_, rfl⟩
  obtain ⟨c0, hc0⟩ : ∃ c0, c.put w.heap.size q = c0 := ⟨_, rfl⟩
  obtain ⟨b0, hbe⟩ : ∃ b0, w.heap.size = b0 := ⟨_, rfl⟩
  have hb0 : w.heap.size ≤ b0 := by omega
  rw [hw0, hc0] at a0 ok0 s00 h0
  rw [hbe] at a0
  have hpb : p ≠ b0 := fun e => by
    obtain ⟨_, xx, _⟩ := h0.row
    have e1 := xx.col
    have e2 := a0.col
    rw [e, e2] at e1
    omega
  have S00 := Lib.hid s00
  have HN := Lib.hid hN
  clear s00 h hok hqc hc0 hN
  obtain ⟨bv, x, ow⟩ := h0.row
  have hle := h0.le
  have hfew := h0.few
  obtain ⟨va, vc, hbv, hcap, hcase⟩ : ∃ va vc, bv = .slice va bs.length vc ∧ bs.length ≤ vc ∧ ((va = none ∧ vc = 0) ∨ ∃ g, va = some ⟨g, 0, none⟩) := by
    rcases ow.form2 with ⟨rfl, rfl⟩ | ⟨g, cap, rfl, hc⟩
    · exact ⟨none, 0, rfl, Nat.le_refl _, .inl ⟨rfl, rfl⟩⟩
    · exact ⟨_, cap, rfl, hc, .inr ⟨g, rfl⟩⟩
  subst hbv
  have y0 := x.get (i := 0) rfl
  have y1 := x.get (i := 1) rfl
  have y1f := x.fz ok0 hk0 1
  have hcp : c0 p = k := x.col
  have hd : decide ((n : Int) ≤ (bs.length : Int) - (a : Int)) = true := by simp; omega
  have hw : IntKind.i64.wrap ((bs.length : Int) - (a : Int)) = (bs.length : Int) - (a : Int) := IntWalk.i64_in _ (by omega)
  have hw2 : IntKind.i64.wrap ((a : Int) + (n : Int)) = (a : Int) + (n : Int) := IntWalk.i64_in _ (by omega)
  have hw3 : IntKind.i64.wrap (a : Int) = (a : Int) := IntWalk.i64_in _ (by omega)
  have ht : ((a : Int) + (n : Int)).toNat - a = n := by omega
  have ha0 : (0 : Int) ≤ (a : Int) := by omega
  have ha1 : (a : Int) ≤ (a : Int) + (n : Int) := by omega
  have ha2 : (a : Int) + (n : Int) ≤ (vc : Int) := by omega
  have M := must_yes w0.drew 6 at0
  have m1 := h0.move hk0 (a' := a + n) hn
  rw [Int.natCast_add] at m1
  have z0 : (w0.setCell ⟨p, 1, none⟩ (.int .i64 ((a : Int) + (n : Int)))).drew.drew.cell? ⟨p, 0, none⟩ = some (.slice va bs.length vc) := by
    show (w0.setCell ⟨p, 1, none⟩ (.int .i64 ((a : Int) + (n : Int)))).cell? ⟨p, 0, none⟩ = _
    rw [World.cell?_setCell_other _ _ _ _ (by intro e; injection e with e1 e2; cases e2)]; exact y0
  have z1 : (w0.setCell ⟨p, 1, none⟩ (.int .i64 ((a : Int) + (n : Int)))).drew.drew.cell? ⟨p, 1, none⟩ = some (.int .i64 ((a : Int) + (n : Int))) :=
    World.cell?_setCell_same' _ _ _ (by rw [y1]; rfl)
  have s1 : Step (One k) c0 w0 c0 ((w0.setCell ⟨p, 1, none⟩ (.int .i64 ((a : Int) + (n : Int)))).drewN 2) := ((Step.refl (K := One k)).setCell (a := ⟨p, 1, none⟩) (.inr x.col) _).drewN 2
  have ok1 : Ok c0 ((w0.setCell ⟨p, 1, none⟩ (.int .i64 ((a : Int) + (n : Int)))).drewN 2) := (ok0.setCell _ _).drewN 2
  have ow1 : Own TByte 5 c0 0 0 ((w0.setCell ⟨p, 1, none⟩ (.int .i64 ((a : Int) + (n : Int)))).drewN 2) (.slice va bs.length vc) bs := (ow.set (a := ⟨p, 1, none⟩) (by show c0 p ≠ 0; omega) (by show c0 p ≠ 0; omega) _).kn (Step.rf.drewN 2)
  have hm2 := m1.kn (Step.rf.drewN 2)
  have HH := Lib.hid (And.intro hm2 s1)
  have OK := Lib.hid ok1
  have K1 : (fun W => W.cell? ⟨p, 0, none⟩ = some (.slice va bs.length vc) ∧ W.cell? ⟨p, 1, none⟩ = some (.int .i64 a)) w0.drew := ⟨y0, y1⟩
  by_cases hca : vc = a
  · exact absurd hca (by have := HN.out; omega)
  · obtain ⟨g, rfl⟩ : ∃ g, va = some ⟨g, 0, none⟩ := by
      rcases hcase with ⟨rfl, rfl⟩ | h0
      · exact absurd (by omega) hca
      · exact h0
    have HL := Lib.hid (show p < ((w0.setCell ⟨p, 1, none⟩ (.int .i64 ((a : Int) + (n : Int)))).drewN 2).heap.size by obtain ⟨_, xx, _⟩ := hm2.row; exact xx.lt)
    have A0 := Lib.hid (show At c0 ((w0.setCell ⟨p, 1, none⟩ (.int .i64 ((a : Int) + (n : Int)))).drewN 2) b0 q (bC (List.replicate 4 0)) from (a0.offC p 1 _ (fun e => hpb e.symm)).keep (Step.rf.drewN 2) (fun h0 => h0))
    have SL : Sl TByte c0 0 0 ((w0.setCell ⟨p, 1, none⟩ (.int .i64 ((a : Int) + (n : Int)))).drewN 2) (.slice (some ⟨g, a, none⟩) n (vc - a)) ((bs.drop a).take n) := by have := ow1.sl.sub a n hn; rwa [Nat.zero_add] at this
    have B := key11n ok1 HN.out SL
    clear x ow ok0 h0 m1 hm2 s1 ok1 ow1 SL
    go_enter Tryz.func176, Tryz.ntmps176
    go_wp2_with fail
    (try rw [hw0])
    (try rw [hbe])
    refine region_planM (fun W => W.cell? ⟨p, 0, none⟩ = some (.slice (some ⟨g, 0, none⟩) bs.length vc) ∧ W.cell? ⟨p, 1, none⟩ = some (.int .i64 a)) (fun _ => true) (by kernel_rfl) ?_
    refine tk2 0 _ 9 rfl rfl K1 ?_
    refine tk2 1 _ 10 rfl rfl K1 ?_
    refine tk2 2 _ 11 rfl rfl K1 ?_
    refine tk2 3 _ 12 rfl rfl K1 ?_
    refine tk2 4 _ 13 rfl rfl K1 ?_
    refine tk2 5 _ 14 rfl rfl K1 ?_
    refine tk2 6 _ 15 rfl rfl K1 ?_
    refine tk2 7 _ 16 rfl rfl K1 ?_
    refine tk2 8 _ 17 rfl rfl K1 ?_
    refine tk2 9 _ 18 rfl rfl K1 ?_
    refine tk2 10 _ 19 rfl rfl K1 ?_
    refine tk2 11 (.bool true) 20 rfl rfl K1 ?_
    refine tk2 12 _ 21 rfl rfl K1 ?_
    refine wpAnyM.one (i := 13) (by kernel_rfl) rfl (fun KQ hK => ?_)
    go_simp
    refine M.mono ?_
    rintro e w1 ⟨rfl, rfl⟩
    refine hK.out _ _ (fun _ => K1) ?_
    clear hK KQ
    (try simp only [Act.put, List.setIfInBounds_toArray, List.set_cons_zero, List.set_cons_succ])
    refine wpAnyM.done (by kernel_rfl) ?_ _
    go_wp2_with fail
    clear y0 y1 K1 M hd hw
    have K2 : (fun W => W.cell? ⟨p, 0, none⟩ = some (.slice (some ⟨g, 0, none⟩) bs.length vc) ∧ W.cell? ⟨p, 1, none⟩ = some (.int .i64 ((a : Int) + (n : Int)))) (w0.setCell ⟨p, 1, none⟩ (.int .i64 ((a : Int) + (n : Int)))).drew.drew := ⟨z0, z1⟩
    refine region_planM (fun W => W.cell? ⟨p, 0, none⟩ = some (.slice (some ⟨g, 0, none⟩) bs.length vc) ∧ W.cell? ⟨p, 1, none⟩ = some (.int .i64 ((a : Int) + (n : Int)))) (fun _ => true) (by kernel_rfl) ?_
    refine tk2 0 _ 31 rfl rfl K2 ?_
    refine tk2 1 _ 32 rfl rfl K2 ?_
    refine tk2 2 _ 33 rfl rfl K2 ?_
    refine tk2 3 _ 34 rfl rfl K2 ?_
    refine tk2 4 _ 35 rfl rfl K2 ?_
    refine tk2 5 _ 36 rfl rfl K2 ?_
    refine tk2 6 _ 37 rfl rfl K2 ?_
    refine tk2 7 _ 38 rfl rfl K2 ?_
    refine tk2 8 _ 39 rfl rfl K2 ?_
    refine tk2 9 _ 40 rfl rfl K2 ?_
    refine tk2 10 (.int .i64 a) 41 rfl rfl K2 ?_
    refine tk2 11 _ 42 rfl rfl K2 ?_
    refine tk2 12 _ 43 rfl rfl K2 ?_
    refine tk2 13 _ 44 rfl rfl K2 ?_
    refine tk2 14 _ 45 rfl rfl K2 ?_
    refine tk2 15 (.slice (some ⟨g, a, none⟩) n (vc - a)) 46 rfl rfl K2 ?_
    refine wpAnyM.one (i := 16) (by kernel_rfl) rfl (fun KQ hK => ?_)
    go_simp
    refine B.mono ?_
    rintro e w1 ⟨rfl, hBl0, c2, s2, o2⟩
    have K3 : (fun W : World => W.cell? ⟨p, 0, none⟩ = some (.slice (some ⟨g, 0, none⟩) bs.length vc) ∧ W.cell? ⟨p, 1, none⟩ = some (.int .i64 ((a : Int) + (n : Int)))) w1 := ⟨(s2.cell HL.out (fun h0 => h0)).trans z0, (s2.cell HL.out (fun h0 => h0)).trans z1⟩
    obtain ⟨B, hB⟩ : ∃ B, bC ((bs.drop a).take n) = B := ⟨_, rfl⟩
    have hB1 : ∀ v ∈ B, v.oneCell' = true := by rw [← hB]; exact bC_one _
    have hBl : B.length = 4 := by rw [← hB, bC_len]; exact hBl0
    rw [hB]
    have a1 := A0.out.keep s2 (fun h0 => h0)
    have hi0 : (Tryz.prog.info? 91).map (·.size) = some B.length := by rw [info_key, hBl]
    have hi1 : (Tryz.prog.info? 91).map (·.size) = some B.toArray.size := by rw [info_key]; simp [hBl]
    have ht0 := a1.there (o := 0) (n := B.toArray.size) o2 hq0 (by simp [bC_len, hBl])
    obtain ⟨S0, a2⟩ := a1.st o2 hq0 (ty := 91) (us := B) (by simp [bC_len, hBl]) hi0 hB1
    have s3 : Step (One q) c2 w1 c2 (w1.setCells b0 0 B) := Step.setCells (.inr a1.col) _ _ _ Step.refl
    have K4 : (fun W : World => W.cell? ⟨p, 0, none⟩ = some (.slice (some ⟨g, 0, none⟩) bs.length vc) ∧ W.cell? ⟨p, 1, none⟩ = some (.int .i64 ((a : Int) + (n : Int)))) (w1.setCells b0 0 B) := ⟨(World.cell?_setCells_out b0 B 0 w1 ⟨p, 0, none⟩ (fun e _ => absurd e hpb)).trans K3.1, (World.cell?_setCells_out b0 B 0 w1 ⟨p, 1, none⟩ (fun e _ => absurd e hpb)).trans K3.2⟩
    have HX := Lib.hid (And.intro a2 (And.intro ((HH.out.1.kn s2).keep s3 (show ¬ k = q by omega) (show ¬ 0 = q by omega)) (And.intro (Step.setCells (.inl hb0) B 0 _ ((S00.out.ofNo.trans HH.out.2).trans s2.ofNo)) (And.intro (Ok.setCells (b := b0) B 0 _ o2) (And.intro hB (And.intro ht0 (And.intro hi0 (And.intro hi1 (all_oneCell_toArray hB1)))))))))
    clear a1 a2 s2 o2 s3 S0 hB hB1 hBl hBl0 ht0 hi0 hi1
    refine hK.out _ _ (fun _ => K3) ?_
    clear hK KQ
    (try simp only [Act.put, List.setIfInBounds_toArray, List.set_cons_zero, List.set_cons_succ])
    refine wpAnyM.one (i := 17) (by kernel_rfl) rfl (fun KQ hK => ?_)
    refine step_store rfl 91 _ _ rfl b0 0 B.toArray rfl rfl HX.out.2.2.2.2.2.1 HX.out.2.2.2.2.2.2.2.1 HX.out.2.2.2.2.2.2.2.2 ?_
    simp only [List.toList_toArray]
    refine hK.out _ _ (fun _ => K4) ?_
    clear hK KQ
    (try simp only [Act.put, List.setIfInBounds_toArray, List.set_cons_zero, List.set_cons_succ])
    refine wpAnyM.done (by kernel_rfl) ?_ _
    go_wp2_with fail
    refine bodyPost_ret (results_cell_mid rfl _ _ b0 0 B _ rfl HX.out.1.cells Tryz.underlying91 rfl HX.out.2.2.2.2.2.2.1) rfl ⟨by rw [HX.out.2.2.2.2.1], c2, HX.out.2.1, HX.out.2.2.1, HX.out.2.2.2.1⟩
end
end Go.Proofs.YtgcobbapaaihiaaGreat

set_option linter.unusedVariables false
set_option linter.unusedSimpArgs false
namespace Go.Proofs.YtgcobbapaaihiaaGreat
open Go.RowKit

theorem info_four : (Tryz.prog.info? 213).map (·.size) = some 4 := by kernel_rfl

section
variable {c : Col} {w : World}

set_option maxRecDepth 100000 in
set_option maxHeartbeats 800000 in
theorem hashes_any (hok : Ok c w) (b : Nat) :
    Calls Tryz.prog 139 #[.pointer (some ⟨b, 0, none⟩)] w fun r w' => r = .returned (.agg #[.pointer (some ⟨b, 3, none⟩), .pointer (some ⟨b, 35, none⟩), .pointer (some ⟨b, 67, none⟩), .pointer (some ⟨b, 99, none⟩)]) ∧
      ∃ c', Step No c w c' w' ∧ Ok c' w' := by
  obtain ⟨q, hq, hqc⟩ := hok.spare 0
  have hq0 : q ≠ 0 := by omega
  obtain ⟨az, oz, sz⟩ := newAt hok [.pointer none, .pointer none, .pointer none, .pointer none] 213 q
  obtain ⟨B, hB⟩ : ∃ B : List Value, [.pointer (some ⟨b, 3, none⟩), .pointer (some ⟨b, 35, none⟩), .pointer (some ⟨b, 67, none⟩), .pointer (some ⟨b, 99, none⟩)] = B := ⟨_, rfl⟩
  have hl : B.length = 4 := by rw [← hB]; rfl
  have h1 : ∀ v ∈ B, v.oneCell' = true := by rw [← hB]; intro u hu; simp at hu; rcases hu with rfl | rfl | rfl | rfl <;> rfl
  have hi0 : (Tryz.prog.info? 213).map (·.size) = some B.length := by rw [info_four, hl]
  have hi1 : (Tryz.prog.info? 213).map (·.size) = some B.toArray.size := by rw [info_four]; simp [hl]
  have az1 := az.keep (Step.rf.drewN 1) (fun h => h)
  have oz1 := oz.drewN 1
  have ht0 := az1.there (o := 0) (n := B.toArray.size) oz1 hq0 (by simp [hl])
  obtain ⟨S0, a2⟩ := az1.st oz1 hq0 (ty := 213) (us := B) (by simp [hl]) hi0 h1
  have HX := Lib.hid (And.intro a2 (And.intro ht0 (And.intro hi1 (And.intro (all_oneCell_toArray h1) (And.intro hi0 (And.intro (Step.setCells (.inl (Nat.le_refl _)) B 0 _ (sz.drewN 1)) (And.intro (Ok.setCells (b := w.heap.size) B 0 _ oz1) hB)))))))
  clear az oz sz az1 oz1 ht0 S0 a2 hi0 hi1 h1 hl hok hqc
  go_enter Tryz.func139, Tryz.ntmps139
  go_wp2_with fail
  have K1 : (fun _ : World => True) (w.alloc (.cells #[.pointer none, .pointer none, .pointer none, .pointer none] 213)).drew := trivial
  refine region_planM (fun W => True) (fun _ => true) (by kernel_rfl) ?_
  refine tk0 0 _ 3 rfl rfl K1 ?_
  refine tk0 1 _ 4 rfl rfl K1 ?_
  refine tk0 2 _ 5 rfl rfl K1 ?_
  refine tk0 3 _ 6 rfl rfl K1 ?_
  refine tk0 4 _ 7 rfl rfl K1 ?_
  refine tk0 5 _ 8 rfl rfl K1 ?_
  refine tk0 6 _ 9 rfl rfl K1 ?_
  refine tk0 7 _ 10 rfl rfl K1 ?_
  refine tk0 8 _ 11 rfl rfl K1 ?_
  refine tk0 9 _ 12 rfl rfl K1 ?_
  refine tk0 10 _ 13 rfl rfl K1 ?_
  refine tk0 11 _ 14 rfl rfl K1 ?_
  refine tk0 12 _ 15 rfl rfl K1 ?_
  refine wpAnyM.one (i := 13) (by kernel_rfl) rfl (fun KQ hK => ?_)
  refine step_store rfl 213 _ _ rfl w.heap.size 0 B.toArray rfl (by rw [← hB]; rfl) HX.out.2.1 HX.out.2.2.1 HX.out.2.2.2.1 ?_
  simp only [List.toList_toArray]
  refine hK.out _ _ (fun _ => trivial) ?_
  clear hK KQ
  (try simp only [Act.put, List.setIfInBounds_toArray, List.set_cons_zero, List.set_cons_succ])
  refine wpAnyM.done (by kernel_rfl) ?_ _
  go_wp2_with fail
  refine bodyPost_ret (results_cell_mid rfl _ _ w.heap.size 0 B _ rfl HX.out.1.cells Tryz.underlying213 rfl HX.out.2.2.2.2.1) rfl ⟨rfl, _, HX.out.2.2.2.2.2.1, HX.out.2.2.2.2.2.2.1⟩
end
end Go.Proofs.YtgcobbapaaihiaaGreat

set_option linter.unusedVariables false
set_option linter.unusedSimpArgs false
namespace Go.Proofs.YtgcobbapaaihiaaGreat
open Go.RowKit

/-- A header's bytes. -/
def encH (h : Hdr) : List UInt8 := (numB h.name.length ++ h.name) ++ (numB h.height.toNat ++ (numB h.time.toNat ++ (h.prev ++ (h.vals ++ (h.next ++ h.app)))))

theorem putS_fits {lim : Int} {bs x : List UInt8} (h : (bs.length : Int) + x.length ≤ lim) : putS lim (bs, 0) true x = (bs ++ x, 0) := by
  have : ¬ lim < (bs.length : Int) + x.length := by omega
  simp [putS, this]

theorem checkH_ok {h : Hdr} (hc : checkH h = 0) : nameB h.name = true ∧ heightB h.height = true ∧ timeB h.time = true := by
  unfold checkH at hc
  split at hc
  · cases hc
  · next h1 =>
    split at hc
    · cases hc
    · next h2 =>
      split at hc
      · cases hc
      · next h3 => exact ⟨by simpa using h1, by simpa using h2, by simpa using h3⟩

section
variable {c : Col} {w : World}

set_option maxRecDepth 100000 in
set_option maxHeartbeats 1600000 in
theorem encodeH_bad (hok : Ok c w) (h : Hdr) (hw : h.Wf) (hc : checkH h ≠ 0) :
    Calls Tryz.prog 194 #[.agg (hdrC h).toArray] w fun r w' => r = .returned (.tuple #[.slice none 0 0, .int .i64 (checkH h)]) ∧ ∃ c', Step No c w c' w' ∧ Ok c' w' := by
  have a1 := At.new0 hok (hdrC h) 53
  have o1 := hok.alloc (.cells (hdrC h).toArray 53)
  have s1 : Step No c w c (w.alloc (.cells (hdrC h).toArray 53)) := Step.refl.alloc _
  have C := check_any o1 h hw
  have hl := hdrC_len hw
  obtain ⟨e0, he⟩ : ∃ e, checkH h = e := ⟨_, rfl⟩
  obtain ⟨B, hB⟩ : ∃ B, hdrC h = B := ⟨_, rfl⟩
  rw [he] at C hc ⊢
  rw [hB] at a1 o1 s1 C hl ⊢
  have hi : Hid ((Tryz.prog.info? 53).map (·.size) = some B.length) := Lib.hid (by rw [info_hdr, hl])
  have HA := Lib.hid a1.cells
  have S := Lib.hid s1
  have hc2 : (e0 != 0) = true := by rw [bne_iff_ne]; exact hc
  clear a1 o1 s1 hl hok hB he
  go_enter Tryz.func194, Tryz.ntmps194
  go_wp2_with (refine wpList_load_mid rfl 53 _ rfl w.heap.size 0 rfl B _ HA.out Tryz.underlying53 rfl hi.out ?_)
  with_reducible refine C.mono ?_
  rintro e w1 ⟨rfl, c1, s1, o1⟩
  have X := Lib.hid (And.intro (S.out.trans s1) o1)
  clear C s1 o1
  go_wp2_with fail
  go_ret2
  exact ⟨rfl, c1, X.out⟩

theorem cells_app {w : World} {b off : Nat} {xs ys : List Value} (h : CellsAt w b off (xs ++ ys)) : CellsAt w b off xs ∧ CellsAt w b (off + xs.length) ys := by
  refine ⟨fun j u hu => h j u (by rw [List.getElem?_append_left (List.getElem?_eq_some_iff.1 hu).1]; exact hu), fun j u hu => ?_⟩
  have := h (xs.length + j) u (by rw [List.getElem?_append_right (by omega)]; simpa using hu)
  rw [Nat.add_assoc]; exact this

theorem hdr_at {w : World} {b : Nat} {h : Hdr} (hw : h.Wf) (hc : CellsAt w b 0 (hdrC h)) : CellsAt w b 3 (bC h.prev) ∧ CellsAt w b 35 (bC h.vals) ∧ CellsAt w b 67 (bC h.next) ∧ CellsAt w b 99 (bC h.app) := by
  have h0 : CellsAt w b 0 ([.string ⟨h.name.toArray⟩, .int .i64 h.height, .int .i64 h.time] ++ (bC h.prev ++ (bC h.vals ++ (bC h.next ++ bC h.app)))) := hc
  have h1 := (cells_app h0).2
  have h2 := (cells_app h1).2
  have h3 := (cells_app h2).2
  have h4 := (cells_app h3).2
  have e1 := (cells_app h1).1
  have e2 := (cells_app h2).1
  have e3 := (cells_app h3).1
  simp only [bC_len, hw.prev, hw.vals, hw.next, List.length_cons, List.length_nil, Nat.zero_add] at e1 e2 e3 h4
  exact ⟨e1, e2, e3, h4⟩

def hashL (h : Hdr) : List (List UInt8) := [h.prev, h.vals, h.next, h.app]
def encH0 (h : Hdr) : List UInt8 := (numB h.name.length ++ h.name) ++ numB h.height.toNat ++ numB h.time.toNat

theorem encH_eq (h : Hdr) : encH0 h ++ ((hashL h).take 4).flatten = encH h := by simp [encH0, hashL, encH]

theorem encH0_len {h : Hdr} (hc : checkH h = 0) : (encH0 h).length ≤ 60 := by
  obtain ⟨h1, _, _⟩ := checkH_ok hc
  simp [nameB] at h1
  have a := numB_len h.name.length
  have b := numB_len h.height.toNat
  have d := numB_len h.time.toNat
  simp [encH0]; omega
end
end Go.Proofs.YtgcobbapaaihiaaGreat

set_option linter.unusedVariables false
set_option linter.unusedSimpArgs false
namespace Go.Proofs.YtgcobbapaaihiaaGreat
open Go.RowKit

theorem run_loadB {P : Program} {w : World} : ∀ (l : List UInt8) (a : Addr) (acc : ByteArray), (∀ (j : Nat) (x : UInt8), l[j]? = some x → w.cell? (a.add j) = some (.int .u8 x.toNat)) →
    (Extern.Bytes.loadBytes a l.length acc).run P w = .ok ⟨acc.data ++ l.toArray⟩ w := by
  intro l a acc h
  have := Go.Lib.run_loadBytesX (P := P) w (l.map fun x => (x.toNat : Int)) a acc (fun j x hx => by
    simp only [List.getElem?_map, Option.map_eq_some_iff] at hx
    obtain ⟨y, h1, rfl⟩ := hx
    exact h j y h1)
  rw [List.length_map] at this
  rw [this]
  congr 3
  simp only [Go.Lib.bytesOf, List.map_map]
  congr 1
  rw [List.map_congr_left (g := id) (fun x _ => by simp)]
  simp

theorem run_bytesOf {P : Program} {c : Col} {k k2 : Nat} {w : World} {v : Value} {l : List UInt8} (h : Sl TByte c k k2 w v l) : (Extern.Bytes.bytesOf v).run P w = .ok ⟨l.toArray⟩ w := by
  rcases h with ⟨rfl, a, cap, rfl, _⟩ | ⟨b, off, cap, rfl, _, _, _, _, h5⟩
  · cases a with
    | none => rfl
    | some a => rfl
  · have := run_loadB (P := P) (w := w) l ⟨b, off, none⟩ .empty (fun j x hx => by
      obtain ⟨vs, rfl, hc⟩ := h5 j x hx
      have := hc 0 _ rfl
      have hadd : (⟨b, off, none⟩ : Addr).add j = ⟨b, off + j * TByte.n + 0, none⟩ := by unfold Addr.add; split <;> simp_all [TByte]
      rw [hadd]; exact this)
    simpa [Extern.Bytes.bytesOf] using this

section
variable {c : Col} {w : World}

theorem run_compareB {k k2 k' k2' : Nat} {v v' : Value} {l l' : List UInt8} (h : Sl TByte c k k2 w v l) (h' : Sl TByte c k' k2' w v' l') :
    (callFunc 199 #[v, v']).run Tryz.prog w = .ok (.value (.int .i64 (Go.Lib.compareBytes l l'))) w := by
  have hr : (Extern.BytealgCompare.compare #[v, v']).run Tryz.prog w = .ok (.int .i64 (Go.Lib.compareBytes l l')) w := by
    change Sem.run Tryz.prog (do pure (goInt (Extern.BytealgCompare.cmp (← Extern.Bytes.bytesOf v) (← Extern.Bytes.bytesOf v')))) w = _
    simp only [Sem.run_bind, run_bytesOf h, run_bytesOf h', Sem.run_pure, Result.andThen]
    rw [Go.Lib.cmp_eq]
    rfl
  rw [run_callFunc_extern Tryz.func199 (by kernel_rfl) (by kernel_rfl) (by kernel_rfl) (by kernel_rfl), hr]
  rfl

theorem compare_any {k k2 k' k2' : Nat} {v v' : Value} {l l' : List UInt8} (h : Sl TByte c k k2 w v l) (h' : Sl TByte c k' k2' w v' l') :
    Calls Tryz.prog 183 #[v, v'] w fun r w' => r = .returned (.int .i64 (Go.Lib.compareBytes l l')) ∧ w' = w := by
  have hr := run_compareB h h'
  obtain ⟨r, hrr⟩ : ∃ r, Go.Lib.compareBytes l l' = r := ⟨_, rfl⟩
  rw [hrr] at hr ⊢
  clear h h' hrr
  go_enter Tryz.func183, Tryz.ntmps183
  go_wp2
  go_ret
  exact ⟨rfl, rfl⟩
end
end Go.Proofs.YtgcobbapaaihiaaGreat

set_option linter.unusedVariables false
set_option linter.unusedSimpArgs false
namespace Go.Proofs.YtgcobbapaaihiaaGreat
open Go.RowKit

/-- A validator. -/
structure Vld where
  key : List UInt8
  power : Int
/-- A vote. -/
structure Vot where
  at_ : Int
  sig : Nat

def valC (v : Vld) : List Value := bC v.key ++ [.int .i64 v.power]
def votC (v : Vot) : List Value := [.int .i64 v.at_, .int .u64 v.sig]

def TVal : Ty Vld where
  n := 5
  rd := fun _ _ _ vs x => vs = valC x ∧ x.key.length = 4 ∧ IntKind.i64.has x.power
  len := by rintro _ _ _ _ _ ⟨rfl, h, _⟩; simp [valC, bC_len, h]
  one := by
    rintro _ _ _ _ _ ⟨rfl, _⟩ u hu
    simp only [valC, List.mem_append, List.mem_cons, List.not_mem_nil, or_false] at hu
    rcases hu with hu | rfl
    · exact bC_one _ u hu
    · rfl
  keep := by rintro _ _ _ _ _ _ _ _ _ _ h; exact h
  turn := by rintro _ _ _ _ _ _ h; exact h

def TVot : Ty Vot where
  n := 2
  rd := fun _ _ _ vs x => vs = votC x ∧ IntKind.i64.has x.at_ ∧ x.sig < 18446744073709551616
  len := by rintro _ _ _ _ _ ⟨rfl, h, _⟩; rfl
  one := by
    rintro _ _ _ _ _ ⟨rfl, _⟩ u hu
    simp only [votC, List.mem_cons, List.not_mem_nil, or_false] at hu
    rcases hu with rfl | rfl <;> rfl
  keep := by rintro _ _ _ _ _ _ _ _ _ _ h; exact h
  turn := by rintro _ _ _ _ _ _ h; exact h

theorem valC_len {v : Vld} (h : v.key.length = 4) : (valC v).length = 5 := by simp [valC, bC_len, h]
theorem valC_one (v : Vld) : ∀ u ∈ valC v, u.oneCell' = true := by
  intro u hu
  simp only [valC, List.mem_append, List.mem_cons, List.not_mem_nil, or_false] at hu
  rcases hu with hu | rfl
  · exact bC_one _ u hu
  · rfl
theorem info_val : (Tryz.prog.info? 93).map (·.size) = some 5 := by kernel_rfl
theorem info_vot : (Tryz.prog.info? 106).map (·.size) = some 2 := by kernel_rfl

/-- Does a validator not stand behind a key, if there is one? -/
def aheadV : Option (List UInt8) → Vld → Bool
  | some k, v => decide (0 ≤ Go.Lib.compareBytes k v.key)
  | none, _ => false
/-- What is wrong with a validator: behind a key, if there is one. -/
def atV (last : Option (List UInt8)) (least most : Int) (v : Vld) : Int :=
  if aheadV last v = true then 9
  else if v.power < least ∨ most < v.power then 3 else 0
/-- What is wrong with validators, one behind the other. -/
def goV (least most : Int) : Option (List UInt8) → List Vld → Int
  | _, [] => 0
  | last, v :: r => if atV last least most v ≠ 0 then atV last least most v else goV least most (some v.key) r
def checkV (l : List Vld) : Int := if l.length = 0 then 6 else if 64 < l.length then 4 else goV 1 4611686018427387904 none l
def encV (l : List Vld) : List UInt8 := numB l.length ++ (l.map fun v => v.key ++ numB v.power.toNat).flatten

/-- What is wrong with votes. -/
def goC : Int → List Vot → Int
  | _, [] => 0
  | last, v :: r => if v.at_ < 0 ∨ 64 ≤ v.at_ then 3 else if v.at_ ≤ last then 9 else goC v.at_ r
/-- A commit: its height, hash, votes. -/
structure Cmt where
  height : Int
  hash : List UInt8
  votes : List Vot
def checkC (c : Cmt) : Int := if c.height < 1 ∨ 1073741824 < c.height then 3 else if 64 < c.votes.length then 4 else goC (-1) c.votes
def encC (c : Cmt) : List UInt8 := numB c.height.toNat ++ (c.hash ++ (numB c.votes.length ++ (c.votes.map fun v => numB v.at_.toNat ++ wordB v.sig).flatten))

theorem goV_ok {least most : Int} : ∀ {last : Option (List UInt8)} {l : List Vld}, goV least most last l = 0 → ∀ v ∈ l, least ≤ v.power ∧ v.power ≤ most
  | _, [], _, v, hv => by simp at hv
  | last, u :: r, h, v, hv => by
    simp only [goV] at h
    split at h
    · next hx => exact absurd h hx
    · next hx =>
      rcases List.mem_cons.1 hv with rfl | hv
      · have hx : atV last least most v = 0 := Classical.byContradiction hx
        unfold atV at hx
        by_cases h1 : aheadV last v = true
        · rw [if_pos h1] at hx; cases hx
        · rw [if_neg h1] at hx
          by_cases h2 : v.power < least ∨ most < v.power
          · rw [if_pos h2] at hx; cases hx
          · omega
      · exact goV_ok h v hv

theorem checkV_ok {l : List Vld} (h : checkV l = 0) : 0 < l.length ∧ l.length ≤ 64 ∧ ∀ v ∈ l, 1 ≤ v.power ∧ v.power ≤ 4611686018427387904 := by
  unfold checkV at h
  split at h
  · cases h
  · split at h
    · cases h
    · exact ⟨by omega, by omega, goV_ok h⟩

theorem goC_ok : ∀ {last : Int} {l : List Vot}, goC last l = 0 → ∀ v ∈ l, 0 ≤ v.at_ ∧ v.at_ < 64
  | _, [], _, v, hv => by simp at hv
  | last, u :: r, h, v, hv => by
    simp only [goC] at h
    split at h
    · cases h
    · split at h
      · cases h
      · rcases List.mem_cons.1 hv with rfl | hv
        · omega
        · exact goC_ok h v hv

theorem checkC_ok {x : Cmt} (h : checkC x = 0) : 1 ≤ x.height ∧ x.height ≤ 1073741824 ∧ x.votes.length ≤ 64 ∧ ∀ v ∈ x.votes, 0 ≤ v.at_ ∧ v.at_ < 64 := by
  unfold checkC at h
  split at h
  · cases h
  · split at h
    · cases h
    · exact ⟨by omega, by omega, by omega, goC_ok h⟩
end Go.Proofs.YtgcobbapaaihiaaGreat
