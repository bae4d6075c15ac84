/- ServerKnown, part 17: lemmas, each with its own conditions. -/
import Derived.Test.YtgcobbapaaihiaaGreatSk07
import Derived.Test.YtgcobbapaaihiaaGreatSk10
import Derived.Test.YtgcobbapaaihiaaGreatSk15
import Derived.Test.YtgcobbapaaihiaaGreatSk16
set_option linter.unusedVariables false
set_option linter.unusedSimpArgs false
namespace Go.Proofs.YtgcobbapaaihiaaGreat
open Go.RowKit

section
variable {P : Program}
/-- append whose run is known, as a step of a region that draws its order. -/
theorem step_append_run {ops : Array Oper} {o : Oper} {a : Act} {w : World} {K : Act → World → Prop} {Q : Exit → Act → World → Prop} {E : Prop} (hgd : o.guard = none) {dd : Option Tmp} (hdd : o.dst = dd) (s x : Operand) (t tn : TypeId)
    (ho : o.op = .call { callee := .builtin .append, args := #[s, x], argTypes := #[t, tn] }) (vs vx : Value) (hs : a.eval s = vs) (hx : a.eval x = vx)
    (v' : Value) (w' : World) (hr : (Builtin.append_ #[t, tn] o.type #[vs, vx]).run P w = .ok v' w') (h : K (a.put dd v') w') : if Region.wanted o (yielded ops a.tmps) = true then Oper.wp P o a w K Q else E := by
  subst hdd
  rw [if_pos (by simp [Region.wanted, hgd])]
  exact Go.Lib.wp_append_run w s x t tn ho vs vx hs hx v' w' hr h
end

theorem u8_int (x : Int) : ∃ b : UInt8, x % 256 = (b.toNat : Int) := ⟨UInt8.ofNat (x % 256).toNat, by simp; omega⟩

theorem bC_set (l : List UInt8) (i : Nat) (b : UInt8) : (bC l).set i (.int .u8 b.toNat) = bC (l.set i b) := by simp [bC, List.map_set]

/-- Two results: a cell of many cells, and a value. -/
theorem results_cell_mid2 {fn : Func} {p q : Tmp} {ty : TypeId} (h : fn.results = #[.cell p ty, .tmp q]) (tmps : Array Value) (W : World) (b o : Nat) (cs : List Value) (d : TypeDesc) (hp : tmps[p]? = some (.pointer (some ⟨b, o, none⟩)))
    (hc : W.rangeAt b o cs) (hu : Tryz.prog.underlying ty = some d) (hd : d.isRow = true) (hi : (Tryz.prog.info? ty).map (·.size) = some cs.length) :
    (results fn tmps).run Tryz.prog W = .ok (.tuple #[.agg cs.toArray, tmps.getD q undef]) W := by
  have := run_loadVar_mid W b o ty cs d hc hu hd hi
  have hp' : tmps[p]?.getD undef = .pointer (some ⟨b, o, none⟩) := by rw [hp]; rfl
  simp [results, h, hp', asAddr, this]

section
variable {c : Col} {w : World}

theorem len_any {p pc : Nat} {n : Int} {kc : Nat} {a : Option Addr} {m cap : Nat} (h : At c w pc kc [.int .i64 n]) (h0 : w.cell? ⟨p, 0, none⟩ = some (.pointer (some ⟨pc, 0, none⟩))) (h9 : w.cell? ⟨p, 9, none⟩ = some (.slice a m cap)) (hn : 0 ≤ n) (hn2 : n ≤ 1000000000) (hm : m ≤ 1000000000) :
    Calls Tryz.prog 206 #[.pointer (some ⟨p, 0, none⟩)] w fun r w' => r = .returned (.int .i64 (n + m)) ∧ ∃ j, w' = w.drewN j := by
  have N := none_any h0
  have C := clen_any n (h.keep (Step.rf.drewN 1) (fun h => h))
  have K1 : (fun W : World => W.cell? ⟨p, 0, none⟩ = some (.pointer (some ⟨pc, 0, none⟩)) ∧ W.cell? ⟨p, 9, none⟩ = some (.slice a m cap)) w.drew := ⟨h0, h9⟩
  have hw : IntKind.i64.wrap (n + (m : Int)) = n + (m : Int) := IntWalk.i64_in _ (by omega)
  clear h
  go_enter Tryz.func206, Tryz.ntmps206
  go_wp2_with fail
  with_reducible refine N.mono ?_
  rintro e w1 ⟨rfl, rfl⟩
  go_wp2_with fail
  refine region_planM (fun W => W.cell? ⟨p, 0, none⟩ = some (.pointer (some ⟨pc, 0, none⟩)) ∧ W.cell? ⟨p, 9, none⟩ = some (.slice a m cap)) (fun i => !([11] : List Nat).contains i) (by kernel_rfl) ?_
  refine wpAnyM.takeT (i := 0) (v := _) (some 5) rfl rfl (by kernel_rfl) (by kernel_rfl) (by kernel_rfl) (by kernel_rfl) (by kernel_rfl) (fun _ _ _ h => h) (Or.inl ⟨by rfl, fun W hW => by first | (obtain ⟨q0, q1⟩ := hW; go_simp <;> rfl) | (obtain ⟨q0, q1⟩ := hW; go_simp; done)⟩) K1 ?_
  (try simp only [Act.put, List.setIfInBounds_toArray, List.set_cons_zero, List.set_cons_succ])
  refine wpAnyM.takeT (i := 1) (v := _) (some 6) rfl rfl (by kernel_rfl) (by kernel_rfl) (by kernel_rfl) (by kernel_rfl) (by kernel_rfl) (fun _ _ _ h => h) (Or.inl ⟨by rfl, fun W hW => by first | (obtain ⟨q0, q1⟩ := hW; go_simp <;> rfl) | (obtain ⟨q0, q1⟩ := hW; go_simp; done)⟩) K1 ?_
  (try simp only [Act.put, List.setIfInBounds_toArray, List.set_cons_zero, List.set_cons_succ])
  refine wpAnyM.takeT (i := 2) (v := _) (some 7) rfl rfl (by kernel_rfl) (by kernel_rfl) (by kernel_rfl) (by kernel_rfl) (by kernel_rfl) (fun _ _ _ h => h) (Or.inl ⟨by rfl, fun W hW => by first | (obtain ⟨q0, q1⟩ := hW; go_simp <;> rfl) | (obtain ⟨q0, q1⟩ := hW; go_simp; done)⟩) K1 ?_
  (try simp only [Act.put, List.setIfInBounds_toArray, List.set_cons_zero, List.set_cons_succ])
  refine wpAnyM.takeT (i := 3) (v := _) (some 8) rfl rfl (by kernel_rfl) (by kernel_rfl) (by kernel_rfl) (by kernel_rfl) (by kernel_rfl) (fun _ _ _ h => h) (Or.inl ⟨by rfl, fun W hW => by first | (obtain ⟨q0, q1⟩ := hW; go_simp <;> rfl) | (obtain ⟨q0, q1⟩ := hW; go_simp; done)⟩) K1 ?_
  (try simp only [Act.put, List.setIfInBounds_toArray, List.set_cons_zero, List.set_cons_succ])
  refine wpAnyM.takeT (i := 5) (v := _) (some 10) rfl rfl (by kernel_rfl) (by kernel_rfl) (by kernel_rfl) (by kernel_rfl) (by kernel_rfl) (fun _ _ _ h => h) (Or.inl ⟨by rfl, fun W hW => by first | (obtain ⟨q0, q1⟩ := hW; go_simp <;> rfl) | (obtain ⟨q0, q1⟩ := hW; go_simp; done)⟩) K1 ?_
  (try simp only [Act.put, List.setIfInBounds_toArray, List.set_cons_zero, List.set_cons_succ])
  refine wpAnyM.takeT (i := 6) (v := _) (some 11) rfl rfl (by kernel_rfl) (by kernel_rfl) (by kernel_rfl) (by kernel_rfl) (by kernel_rfl) (fun _ _ _ h => h) (Or.inl ⟨by rfl, fun W hW => by first | (obtain ⟨q0, q1⟩ := hW; go_simp <;> rfl) | (obtain ⟨q0, q1⟩ := hW; go_simp; done)⟩) K1 ?_
  (try simp only [Act.put, List.setIfInBounds_toArray, List.set_cons_zero, List.set_cons_succ])
  refine wpAnyM.takeT (i := 7) (v := _) (some 12) rfl rfl (by kernel_rfl) (by kernel_rfl) (by kernel_rfl) (by kernel_rfl) (by kernel_rfl) (fun _ _ _ h => h) (Or.inl ⟨by rfl, fun W hW => by first | (obtain ⟨q0, q1⟩ := hW; go_simp <;> rfl) | (obtain ⟨q0, q1⟩ := hW; go_simp; done)⟩) K1 ?_
  (try simp only [Act.put, List.setIfInBounds_toArray, List.set_cons_zero, List.set_cons_succ])
  refine wpAnyM.takeT (i := 8) (v := _) (some 13) rfl rfl (by kernel_rfl) (by kernel_rfl) (by kernel_rfl) (by kernel_rfl) (by kernel_rfl) (fun _ _ _ h => h) (Or.inl ⟨by rfl, fun W hW => by first | (obtain ⟨q0, q1⟩ := hW; go_simp <;> rfl) | (obtain ⟨q0, q1⟩ := hW; go_simp; done)⟩) K1 ?_
  (try simp only [Act.put, List.setIfInBounds_toArray, List.set_cons_zero, List.set_cons_succ])
  refine wpAnyM.takeT (i := 9) (v := _) (some 14) rfl rfl (by kernel_rfl) (by kernel_rfl) (by kernel_rfl) (by kernel_rfl) (by kernel_rfl) (fun _ _ _ h => h) (Or.inl ⟨by rfl, fun W hW => by first | (obtain ⟨q0, q1⟩ := hW; go_simp <;> rfl) | (obtain ⟨q0, q1⟩ := hW; go_simp; done)⟩) K1 ?_
  (try simp only [Act.put, List.setIfInBounds_toArray, List.set_cons_zero, List.set_cons_succ])
  refine wpAnyM.one (i := 4) (by kernel_rfl) rfl (fun KQ hK => ?_)
  go_simp
  refine C.mono ?_
  rintro e w2 ⟨rfl, rfl⟩
  go_simp
  refine hK.out _ _ (fun _ => K1) ?_
  clear hK KQ
  (try simp only [Act.put, List.setIfInBounds_toArray, List.set_cons_zero, List.set_cons_succ])
  refine wpAnyM.takeT (i := 10) (v := _) (some 15) rfl rfl (by kernel_rfl) (by kernel_rfl) (by kernel_rfl) (by kernel_rfl) (by kernel_rfl) (fun _ _ _ h => h) (Or.inl ⟨by rfl, fun W hW => by first | (obtain ⟨q0, q1⟩ := hW; go_simp <;> rfl) | (obtain ⟨q0, q1⟩ := hW; go_simp; done)⟩) K1 ?_
  (try simp only [Act.put, List.setIfInBounds_toArray, List.set_cons_zero, List.set_cons_succ])
  refine wpAnyM.one (i := 11) (by kernel_rfl) rfl (fun KQ hK => ?_)
  go_simp
  refine hK.out _ _ (fun h => absurd h (by decide)) ?_
  clear hK KQ
  (try simp only [Act.put, List.setIfInBounds_toArray, List.set_cons_zero, List.set_cons_succ])
  refine wpAnyM.done (by kernel_rfl) ?_ _
  go_wp2_with fail
  go_ret
  exact ⟨rfl, 1, rfl⟩

set_option maxRecDepth 100000 in
set_option maxHeartbeats 3200000 in
theorem sum_any (hok : Ok c w) {p pc k kc kb n : Nat} {rv : Value} {l : List UInt8} (hc : At c w pc kc [.int .i64 n]) (hp : WdsM c w p k [.pointer (some ⟨pc, 0, none⟩)] [rv] 8) (hr : Sl TByte c kb 0 w rv l) (hl : l.length < 64) (hn : n ≤ 1000000) :
    Calls Tryz.prog 193 #[.pointer (some ⟨p, 0, none⟩)] w fun r w' => ∃ h : List UInt8, h.length = 32 ∧ r = .returned (.tuple #[.agg (bC h).toArray, .int .i64 0]) ∧ ∃ c', Step No c w c' w' ∧ Ok c' w' := by
  obtain ⟨q, hq, hqc⟩ := hok.top (k + kc + kb)
  have hq0 : q ≠ 0 := by omega
  obtain ⟨l0, hl0, hx0, ap⟩ := hp.at_
  -- out
  obtain ⟨ao, oo, so⟩ := newAt hok (bC (List.replicate 32 0)) 51 q
  rw [show (bC (List.replicate 32 0)).toArray = #[.int .u8 0, .int .u8 0, .int .u8 0, .int .u8 0, .int .u8 0, .int .u8 0, .int .u8 0, .int .u8 0, .int .u8 0, .int .u8 0, .int .u8 0, .int .u8 0, .int .u8 0, .int .u8 0, .int .u8 0, .int .u8 0, .int .u8 0, .int .u8 0, .int .u8 0, .int .u8 0, .int .u8 0, .int .u8 0, .int .u8 0, .int .u8 0, .int .u8 0, .int .u8 0, .int .u8 0, .int .u8 0, .int .u8 0, .int .u8 0, .int .u8 0, .int .u8 0] from rfl] at ao oo so
  obtain ⟨W1, hW1⟩ : ∃ W1, w.alloc (.cells #[.int .u8 0, .int .u8 0, .int .u8 0, .int .u8 0, .int .u8 0, .int .u8 0, .int .u8 0, .int .u8 0, .int .u8 0, .int .u8 0, .int .u8 0, .int .u8 0, .int .u8 0, .int .u8 0, .int .u8 0, .int .u8 0, .int .u8 0, .int .u8 0, .int .u8 0, .int .u8 0, .int .u8 0, .int .u8 0, .int .u8 0, .int .u8 0, .int .u8 0, .int .u8 0, .int .u8 0, .int .u8 0, .int .u8 0, .int .u8 0, .int .u8 0, .int .u8 0] 51) = W1 := ⟨_, rfl⟩
  rw [hW1] at ao oo so
  obtain ⟨c1, hc1⟩ : ∃ c1, c.put w.heap.size q = c1 := ⟨_, rfl⟩
  rw [hc1] at ao oo so
  obtain ⟨ob, hob⟩ : ∃ b, w.heap.size = b := ⟨_, rfl⟩
  rw [hob] at ao
  have ap1 := ap.keep so (fun h => h)
  have hr1 := hr.kn so
  have hc1' := hc.keep so (fun h => h)
  have p0 := ap1.get (i := 0) rfl
  have N := none_any p0
  -- the words, by value
  have hcw : CellsAt W1 p 1 (u32C l0) := by
    have := (cells_app (xs := [.pointer (some ⟨pc, 0, none⟩)]) ap1.cells).2
    exact (cells_app this).1
  have hcr : ap1.cells = ap1.cells := rfl
  have p9 := ap1.get (i := 9) (u := rv) (by rw [List.getElem?_append_right (by simp), List.getElem?_append_right (by simp [u32C_len, hl0])]; simp [u32C_len, hl0])
  have hBl : (u32C l0).length = 8 := by rw [u32C_len, hl0]
  have hi1 : (Tryz.prog.info? 271).map (·.size) = some (u32C l0).length := by rw [info_words, hBl]
  have hi2 : (Tryz.prog.info? 271).map (·.size) = some (u32C l0).toArray.size := by rw [info_words]; simp [hBl]
  have hB1 := u32C_one l0
  obtain ⟨a2, o2, s2⟩ := newAt oo (u32C (List.replicate 8 0)) 271 (q + 1)
  rw [show (u32C (List.replicate 8 0)).toArray = #[.int .u32 0, .int .u32 0, .int .u32 0, .int .u32 0, .int .u32 0, .int .u32 0, .int .u32 0, .int .u32 0] from rfl] at a2 o2 s2
  obtain ⟨W2, hW2⟩ : ∃ W2, W1.alloc (.cells #[.int .u32 0, .int .u32 0, .int .u32 0, .int .u32 0, .int .u32 0, .int .u32 0, .int .u32 0, .int .u32 0] 271) = W2 := ⟨_, rfl⟩
  rw [hW2] at a2 o2 s2
  obtain ⟨c2, hc2⟩ : ∃ c2, c1.put W1.heap.size (q + 1) = c2 := ⟨_, rfl⟩
  rw [hc2] at a2 o2 s2
  obtain ⟨hb, hhb⟩ : ∃ b, W1.heap.size = b := ⟨_, rfl⟩
  rw [hhb] at a2
  obtain ⟨S0, a3⟩ := a2.st o2 (Nat.succ_ne_zero q) (ty := 271) (us := u32C l0) (by rw [hBl]; rfl) hi1 hB1
  have ht0 := a2.there (o := 0) (n := (u32C l0).toArray.size) o2 (Nat.succ_ne_zero q) (by simp [u32C_len, hl0])
  have hB2 := all_oneCell_toArray hB1
  have s3 : Step (One (q + 1)) c2 W2 c2 (W2.setCells hb 0 (u32C l0)) := Step.setCells (K := One (q + 1)) (.inr a2.col) _ _ _ Step.refl
  have o3 := Ok.setCells (b := hb) (u32C l0) 0 _ o2
  have w3 : WdsM c2 (W2.setCells hb 0 (u32C l0)) hb (q + 1) [] [] 8 := Wds.mid (show Wds c2 (W2.setCells hb 0 (u32C l0)) hb (q + 1) 8 from ⟨l0, hl0, hx0, a3⟩)
  have sall : Step (Hi q q) c w c2 (W2.setCells hb 0 (u32C l0)) := (so.trans s2).ofNo.hi s3 (.inr (by omega))
  have ao3 := (ao.keep s2 (fun h => h)).keep s3 (show ¬ q = q + 1 by omega)
  have ap3 := (ap1.keep s2 (fun h => h)).keep s3 (show ¬ k = q + 1 by omega)
  have hc3 := (hc1'.keep s2 (fun h => h)).keep s3 (show ¬ kc = q + 1 by omega)
  have hr3 := (hr1.kn s2).keep s3 (show ¬ kb = q + 1 by omega) (show ¬ 0 = q + 1 by omega)
  obtain ⟨B, hB⟩ : ∃ B, u32C l0 = B := ⟨_, rfl⟩
  have HBl : Hid (B.length = 8) := Lib.hid (by rw [← hB]; exact hBl)
  rw [hB] at hcw hi1 hi2 ht0 hB2 s3 o3 w3 sall ao3 ap3 hc3 hr3
  obtain ⟨W3, hW3⟩ : ∃ W3, W2.setCells hb 0 B = W3 := ⟨_, rfl⟩
  rw [hW3] at o3 w3 sall ao3 ap3 hc3 hr3
  have SL := Lib.hid (And.intro hcw (And.intro hi1 (And.intro ht0 (And.intro hi2 hB2))))
  have X3 := Lib.hid (And.intro ao3 (And.intro ap3 (And.intro hc3 (And.intro hr3 (And.intro w3 (And.intro sall o3))))))
  clear ao oo so ap1 hr1 hc1' p0 hcw hcr p9 hBl hi1 hi2 hB1 a2 o2 s2 S0 a3 ht0 hB2 s3 o3 w3 sall ao3 ap3 hc3 hr3 ap hp hc hr hc1 hc2 hok
  go_enter Tryz.func193, Tryz.ntmps193
  go_wp2_with fail
  (try rw [hW1])
  (try rw [hob])
  with_reducible refine N.mono ?_
  rintro e w1 ⟨rfl, rfl⟩
  clear N
  go_wp2_with (first | (refine wpList_load_mid rfl 271 _ rfl p 1 rfl B _ SL.out.1 Tryz.underlying271 rfl SL.out.2.1 ?_) | (refine wpList_store_mid rfl 271 _ _ rfl hb 0 B.toArray rfl rfl SL.out.2.2.1 SL.out.2.2.2.1 SL.out.2.2.2.2 ?_))
  rw [hW3]
  obtain ⟨va, vc, hrv, _⟩ := X3.out.2.2.2.1.form
  subst hrv
  have y9 : W3.drew.cell? ⟨p, 9, none⟩ = some (.slice va l.length vc) := X3.out.2.1.get (i := 9) (by have hbl := HBl.out; rw [List.getElem?_append_right (by simp), List.getElem?_append_right (by simp; omega)]; simp [hbl])
  have hpl : p < W3.drew.heap.size := X3.out.2.1.lt
  have C := clone_any (X3.out.2.2.2.2.2.2.drewN 1) (q + 2) (X3.out.2.2.2.1.kn (Step.rf.drewN 1)) (by omega)
  obtain ⟨m, hm⟩ : ∃ m, 64 - l.length = m := ⟨_, rfl⟩
  have hw64 : IntKind.i64.wrap (64 - (l.length : Int)) = (m : Int) := by rw [IntWalk.i64_in _ (by omega)]; omega
  have HM := Lib.hid hm
  clear hm
  have K4 : (fun W : World => W.cell? ⟨p, 9, none⟩ = some (.slice va l.length vc)) W3.drew := y9
  refine region_planM (fun W => W.cell? ⟨p, 9, none⟩ = some (.slice va l.length vc)) (fun i => !([12] : List Nat).contains i) (by kernel_rfl) ?_
  refine wpAnyM.takeT (i := 0) (v := _) (some 14) rfl rfl (by kernel_rfl) (by kernel_rfl) (by kernel_rfl) (by kernel_rfl) (by kernel_rfl) (fun _ _ _ h => h) (Or.inl ⟨by rfl, fun W hW => by first | (obtain q0 := hW; go_simp <;> rfl) | (obtain q0 := hW; go_simp; done)⟩) K4 ?_
  (try simp only [Act.put, List.setIfInBounds_toArray, List.set_cons_zero, List.set_cons_succ])
  refine wpAnyM.takeT (i := 1) (v := _) (some 15) rfl rfl (by kernel_rfl) (by kernel_rfl) (by kernel_rfl) (by kernel_rfl) (by kernel_rfl) (fun _ _ _ h => h) (Or.inl ⟨by rfl, fun W hW => by first | (obtain q0 := hW; go_simp <;> rfl) | (obtain q0 := hW; go_simp; done)⟩) K4 ?_
  (try simp only [Act.put, List.setIfInBounds_toArray, List.set_cons_zero, List.set_cons_succ])
  refine wpAnyM.takeT (i := 2) (v := _) (some 16) rfl rfl (by kernel_rfl) (by kernel_rfl) (by kernel_rfl) (by kernel_rfl) (by kernel_rfl) (fun _ _ _ h => h) (Or.inl ⟨by rfl, fun W hW => by first | (obtain q0 := hW; go_simp <;> rfl) | (obtain q0 := hW; go_simp; done)⟩) K4 ?_
  (try simp only [Act.put, List.setIfInBounds_toArray, List.set_cons_zero, List.set_cons_succ])
  refine wpAnyM.takeT (i := 3) (v := _) (some 17) rfl rfl (by kernel_rfl) (by kernel_rfl) (by kernel_rfl) (by kernel_rfl) (by kernel_rfl) (fun _ _ _ h => h) (Or.inl ⟨by rfl, fun W hW => by first | (obtain q0 := hW; go_simp <;> rfl) | (obtain q0 := hW; go_simp; done)⟩) K4 ?_
  (try simp only [Act.put, List.setIfInBounds_toArray, List.set_cons_zero, List.set_cons_succ])
  refine wpAnyM.takeT (i := 5) (v := _) (some 19) rfl rfl (by kernel_rfl) (by kernel_rfl) (by kernel_rfl) (by kernel_rfl) (by kernel_rfl) (fun _ _ _ h => h) (Or.inl ⟨by rfl, fun W hW => by first | (obtain q0 := hW; go_simp <;> rfl) | (obtain q0 := hW; go_simp; done)⟩) K4 ?_
  (try simp only [Act.put, List.setIfInBounds_toArray, List.set_cons_zero, List.set_cons_succ])
  refine wpAnyM.takeT (i := 6) (v := _) (some 20) rfl rfl (by kernel_rfl) (by kernel_rfl) (by kernel_rfl) (by kernel_rfl) (by kernel_rfl) (fun _ _ _ h => h) (Or.inl ⟨by rfl, fun W hW => by first | (obtain q0 := hW; go_simp <;> rfl) | (obtain q0 := hW; go_simp; done)⟩) K4 ?_
  (try simp only [Act.put, List.setIfInBounds_toArray, List.set_cons_zero, List.set_cons_succ])
  refine wpAnyM.takeT (i := 7) (v := _) (some 21) rfl rfl (by kernel_rfl) (by kernel_rfl) (by kernel_rfl) (by kernel_rfl) (by kernel_rfl) (fun _ _ _ h => h) (Or.inl ⟨by rfl, fun W hW => by first | (obtain q0 := hW; go_simp <;> rfl) | (obtain q0 := hW; go_simp; done)⟩) K4 ?_
  (try simp only [Act.put, List.setIfInBounds_toArray, List.set_cons_zero, List.set_cons_succ])
  refine wpAnyM.takeT (i := 8) (v := _) (some 22) rfl rfl (by kernel_rfl) (by kernel_rfl) (by kernel_rfl) (by kernel_rfl) (by kernel_rfl) (fun _ _ _ h => h) (Or.inl ⟨by rfl, fun W hW => by first | (obtain q0 := hW; go_simp <;> rfl) | (obtain q0 := hW; go_simp; done)⟩) K4 ?_
  (try simp only [Act.put, List.setIfInBounds_toArray, List.set_cons_zero, List.set_cons_succ])
  refine wpAnyM.takeT (i := 9) (v := _) (some 23) rfl rfl (by kernel_rfl) (by kernel_rfl) (by kernel_rfl) (by kernel_rfl) (by kernel_rfl) (fun _ _ _ h => h) (Or.inl ⟨by rfl, fun W hW => by first | (obtain q0 := hW; go_simp <;> rfl) | (obtain q0 := hW; go_simp; done)⟩) K4 ?_
  (try simp only [Act.put, List.setIfInBounds_toArray, List.set_cons_zero, List.set_cons_succ])
  refine wpAnyM.takeT (i := 10) (v := _) (some 24) rfl rfl (by kernel_rfl) (by kernel_rfl) (by kernel_rfl) (by kernel_rfl) (by kernel_rfl) (fun _ _ _ h => h) (Or.inl ⟨by rfl, fun W hW => by first | (obtain q0 := hW; go_simp <;> rfl) | (obtain q0 := hW; go_simp; done)⟩) K4 ?_
  (try simp only [Act.put, List.setIfInBounds_toArray, List.set_cons_zero, List.set_cons_succ])
  refine wpAnyM.one (i := 4) (by kernel_rfl) rfl (fun KQ hK => ?_)
  go_simp
  refine C.mono ?_
  rintro e w4 ⟨v4, c4, rfl, p4, s4, o4⟩
  have K4 : (fun W : World => W.cell? ⟨p, 9, none⟩ = some (.slice va l.length vc)) w4 := (s4.cell hpl (fun h => h)).trans y9
  have hpl4 : p < w4.heap.size := Nat.lt_of_lt_of_le hpl s4.size
  go_simp
  refine hK.out _ _ (fun _ => K4) ?_
  clear hK KQ
  (try simp only [Act.put, List.setIfInBounds_toArray, List.set_cons_zero, List.set_cons_succ])
  refine wpAnyM.one (i := 11) (by kernel_rfl) rfl (fun KQ hK => ?_)
  obtain ⟨v5, w5, c5, hr5, p5, s5, o5⟩ := run_appz o4 p4 (Nat.succ_ne_zero _) m (by have := HM.out; omega) (by have := HM.out; omega) 26
  refine step_append_run (dd := some 25) rfl rfl _ _ 26 3 rfl v4 (.int .i64 m) rfl rfl v5 w5 hr5 ?_
  obtain ⟨va5, vc5, rfl, _⟩ := p5.sl.form
  have hl5 : (l ++ List.replicate m (0 : UInt8)).length = 64 := by have := HM.out; simp; omega
  obtain ⟨l5, hl5e⟩ : ∃ l5, l ++ List.replicate m (0 : UInt8) = l5 := ⟨_, rfl⟩
  rw [hl5e] at p5 hl5 ⊢
  rw [hl5] at p5 ⊢
  have ap4 := (X3.out.2.1.keep (Step.rf.drewN (K := No) 1) (fun h => h)).keep s4 (fun h => h)
  have ap5 := ap4.keep s5 (show ¬ k = q + 2 by omega)
  have K4 : (fun W : World => W.cell? ⟨p, 9, none⟩ = some (.slice va l.length vc)) w5 := ap5.get (i := 9) (by have hbl := HBl.out; rw [List.getElem?_append_right (by simp), List.getElem?_append_right (by simp; omega)]; simp [hbl])
  have X5 := Lib.hid (And.intro (((X3.out.1.keep (Step.rf.drewN (K := No) 1) (fun h => h)).keep s4 (fun h => h)).keep s5 (show ¬ q = q + 2 by omega)) (And.intro ap5 (And.intro (((X3.out.2.2.1.keep (Step.rf.drewN (K := No) 1) (fun h => h)).keep s4 (fun h => h)).keep s5 (show ¬ kc = q + 2 by omega)) (And.intro p5.sl (And.intro (((X3.out.2.2.2.2.1.keep (Step.rf.drewN (K := No) 1) (fun h => h)).keep s4 (fun h => h)).keep s5 (show ¬ q + 1 = q + 2 by omega)) (And.intro (((X3.out.2.2.2.2.2.1.drewN 1).trans s4.ofNo).hi s5 (.inr (by omega))) o5))))))
  have HL5 := Lib.hid hl5
  clear p4 s4 o4 p5 s5 o5 ap4 ap5 hl5 hl5e hr5
  refine hK.out _ _ (fun _ => K4) ?_
  clear hK KQ
  (try simp only [Act.put, List.setIfInBounds_toArray, List.set_cons_zero, List.set_cons_succ])
  refine wpAnyM.one (i := 12) (by kernel_rfl) rfl (fun KQ hK => ?_)
  go_simp
  refine hK.out _ _ (fun h => absurd h (by decide)) ?_
  clear hK KQ
  (try simp only [Act.put, List.setIfInBounds_toArray, List.set_cons_zero, List.set_cons_succ])
  refine wpAnyM.done (by kernel_rfl) ?_ _
  clear K4 C
  have y5 := X5.out.2.1.get (i := 0) rfl
  have y59 := X5.out.2.1.get (i := 9) (u := .slice va l.length vc) (by have hbl := HBl.out; rw [List.getElem?_append_right (by simp), List.getElem?_append_right (by simp; omega)]; simp [hbl])
  have LN := len_any X5.out.2.2.1 y5 y59 (by omega) (by omega) (by omega)
  clear X3 y9 hpl
  go_wp2_with fail
  with_reducible refine LN.mono ?_
  rintro e w6 ⟨rfl, j6, rfl⟩
  have BK := block_any (X5.out.2.2.2.2.2.2.drewN j6) (pre := []) (o := 0) rfl (X5.out.2.2.2.2.1.keep (Step.rf.drewN j6) (fun h => h)) (Nat.succ_ne_zero _) (X5.out.2.2.2.1.kn (Step.rf.drewN j6)) (by omega) HL5.out (n + l.length) true
  clear LN
  go_wp2_with fail
  with_reducible refine BK.mono ?_
  rintro e w7 ⟨rfl, c7, h7, s7, o7⟩
  have X7 := Lib.hid (And.intro ((X5.out.1.keep (Step.rf.drewN (K := No) j6) (fun h => h)).keep s7 (show ¬ q = q + 1 by omega)) (And.intro h7 (And.intro ((X5.out.2.2.2.2.2.1.drewN j6).hi s7 (.inr (by omega))) o7)))
  clear BK h7 s7 o7 X5 y5 y59
  go_wp2_with fail
  go_loopw [30] (fun vi wr => ∃ (i : Nat) (hs : List UInt8), i ≤ 32 ∧ vi = .int .i64 i ∧ hs.length = 32 ∧ At c7 wr ob q (bC hs) ∧ WdsM c7 wr hb (q + 1) [] [] 8 ∧ Step (Hi q q) c w c7 wr ∧ Ok c7 wr) (fun vi _ => 32 - (intOf vi).toNat)
  case atStart => exact ⟨0, _, by omega, rfl, by simp, X7.out⟩
  case round =>
    clear X7
    obtain ⟨i, hs, hi, rfl, hhs, ah, wh, st, ok⟩ := hrel
    by_cases hlt : i < 32
    · obtain ⟨z, hz, yz⟩ := wh.cell (i := i / 4) (by omega)
      rw [List.length_nil, Nat.zero_add] at yz
      have yo : wr.cell? ⟨ob, i, none⟩ = some (.int .u8 (hs[i]'(by omega)).toNat) := ah.get (bC_get (by rw [List.getElem?_eq_getElem]))
      have yf := ok.soft ob i (by rw [ah.col]; exact hq0)
      have e1 : Int.tdiv (i : Int) 4 = ((i / 4 : Nat) : Int) := by rw [Int.tdiv_eq_ediv_of_nonneg (by omega)]; omega
      have e2 : Int.tmod (i : Int) 4 = ((i % 4 : Nat) : Int) := by rw [Int.tmod_eq_emod_of_nonneg (by omega)]; omega
      have hlt' : (i : Int) < 32 := by omega
      have h40 : (0 : Int) ≤ ((i / 4 : Nat) : Int) := by omega
      have h48 : ((i / 4 : Nat) : Int) < 8 := by omega
      have X := Lib.hid (And.intro ah (And.intro wh (And.intro st ok)))
      clear ah wh st ok
      go_wp2_with fail
      obtain ⟨ah, wh, st, ok⟩ := X.out
      obtain ⟨b, hb8⟩ := u8_int ((z : Int) / 2 ^ (8 * (i % 4)))
      rw [hb8]
      have hob : hb ≠ ob := fun e => by have e1 := ah.col; have e2 := wh.col; rw [e, e1] at e2; omega
      have a2 := ah.setN (i := i) (by rw [bC_len]; omega) (.int .u8 b.toNat)
      rw [bC_set] at a2
      exact ⟨⟨i + 1, hs.set i b, by omega, by go_num, by simpa using hhs, a2, wh.off hob, st.hi ((Step.refl (K := One q)).setCell (a := ⟨ob, i, none⟩) (.inr ah.col) _) (.inr (Nat.le_refl _)), ok.setCell _ _⟩, by simp [intOf]; omega⟩
    · have hi32 : i = 32 := by omega
      subst hi32
      obtain ⟨B, hB⟩ : ∃ B, bC hs = B := ⟨_, rfl⟩
      have hBl : B.length = 32 := by rw [← hB, bC_len, hhs]
      have hB1 : ∀ v ∈ B, v.oneCell' = true := by rw [← hB]; exact bC_one _
      rw [hB] at ah
      have hi0 : (Tryz.prog.info? 51).map (·.size) = some B.length := by rw [info_hash, hBl]
      have hi1 : (Tryz.prog.info? 51).map (·.size) = some B.toArray.size := by rw [info_hash]; simp [hBl]
      have ht0 := ah.there (o := 0) (n := B.toArray.size) ok hq0 (by simp)
      obtain ⟨S0, a2⟩ := ah.st ok hq0 (ty := 51) (us := B) rfl hi0 hB1
      have X := Lib.hid (And.intro ah (And.intro a2 (And.intro hi0 (And.intro (all_oneCell_toArray hB1) (And.intro ht0 (And.intro (st.hi (Step.setCells (K := One q) (.inr ah.col) B 0 _ Step.refl) (.inr (Nat.le_refl _))) (And.intro (Ok.setCells (b := ob) B 0 _ ok) (And.intro hi1 (And.intro hB hhs)))))))))
      clear ah wh st ok hi0 hi1 ht0 S0 a2 hB hBl hB1 hhs
      go_wp2_with (first | (refine wpList_load_mid rfl 51 _ rfl ob 0 rfl B _ X.out.1.cells Tryz.underlying51 rfl X.out.2.2.1 ?_) | (refine wpList_store_mid rfl 51 _ _ rfl ob 0 B.toArray rfl rfl X.out.2.2.2.2.1 X.out.2.2.2.2.2.2.2.1 X.out.2.2.2.1 ?_))
      refine bodyPost_ret (results_cell_mid2 rfl _ _ ob 0 B _ rfl X.out.2.1.cells Tryz.underlying51 rfl X.out.2.2.1) rfl ⟨hs, X.out.2.2.2.2.2.2.2.2.2, by rw [X.out.2.2.2.2.2.2.2.2.1]; rfl, c7, ?_, X.out.2.2.2.2.2.2.1⟩
      exact X.out.2.2.2.2.2.1.drop fun b _ e => by have := hqc b; rcases e with e | e <;> omega
end
end Go.Proofs.YtgcobbapaaihiaaGreat
