/- ServerKnown, part 32: lemmas, each with its own conditions. -/
import Derived.Test.YtgcobbapaaihiaaGreatSk02
import Derived.Test.YtgcobbapaaihiaaGreatSk25
import Derived.Test.YtgcobbapaaihiaaGreatSk29
import Derived.Test.YtgcobbapaaihiaaGreatSk30
import Derived.Test.YtgcobbapaaihiaaGreatSk31
set_option linter.unusedVariables false
set_option linter.unusedSimpArgs false
namespace Go.Proofs.YtgcobbapaaihiaaGreat
open Go.RowKit

/-- x.(T), x of another type. -/
theorem run_assert_not {P : Program} {t u xT : TypeId} {fs : Array Field} (h : P.underlying u = some (.struct fs)) (v : Value) (hne : ¬ t = u) (z : Value) (hz : (P.info? u).map (·.zero) = some (some z)) (w : World) : (Instr.typeAssert (.iface t v) xT u true).run P w = .ok (.tuple #[z, .bool false]) w := by
  have hz2 : (zeroValue u).run P w = .ok z w := by
    cases hi : P.info? u with
    | none => rw [hi] at hz; cases hz
    | some i =>
      rw [hi] at hz
      simp only [Option.map_some, Option.some.injEq] at hz
      simp [zeroValue, typeInfo, hi, hz]
  simp [Instr.typeAssert, run_underlying h, hne, hz2]
theorem zeroAsk : (Tryz.prog.info? 70).map (·.zero) = some (some (.agg #[.int .i64 0, .int .i64 0])) := by kernel_rfl

section
variable {c : Col} {w : World}

theorem ansMethod (n : Nat) (A : Array Value) (W : World) : (method (n + 1) 206 (.agg A) (mName Tryz.t206)).run Tryz.prog W = .ok (242, .agg A) W := by kernel_rfl

set_option maxRecDepth 100000 in
set_option maxHeartbeats 1600000 in
theorem ofAns_any (hok : Ok c w) (B : List Value) (hB : B.length = 167) (h1 : ∀ v ∈ B, v.oneCell' = true) :
    Calls Tryz.prog 91 #[.iface 61 (.agg B.toArray)] w fun r w' => r = .returned (.iface 206 (.agg B.toArray)) ∧ ∃ c', Step No c w c' w' ∧ Ok c' w' := by
  have hta := fun W => run_assert_struct (P := Tryz.prog) (xT := 20) Tryz.underlying61 (.agg B.toArray) W
  have htn := fun W => run_assert_not (P := Tryz.prog) (t := 61) (xT := 20) Tryz.underlying70 (.agg B.toArray) (by decide) _ zeroAsk W
  obtain ⟨Z, hZ, hz⟩ := zero_answer
  obtain ⟨W, c1, hW, a1, o1, s1, t1, t2, t3, t4⟩ := stnew hok hZ hB h1 info_answer (q := 1) (by decide)
  obtain ⟨xb, hxb⟩ : ∃ b, w.heap.size = b := ⟨_, rfl⟩
  rw [hxb] at hW a1 t1
  have HZ := Lib.hid hz
  have SL := Lib.hid (And.intro a1.cells (And.intro t1 (And.intro t2 (And.intro t3 t4))))
  have X := Lib.hid (And.intro s1 o1)
  have HW := Lib.hid hW
  clear a1 o1 s1 t1 t2 t3 t4 hok hB h1 hz hZ hW
  go_enter Tryz.func91, Tryz.ntmps91
  go_wp2_with (first | (refine wpList_alloc_zero rfl (some 4) rfl 61 rfl HZ.out ?_; rw [hxb]) | (refine wpList_store_mid rfl 61 _ _ rfl xb 0 B.toArray rfl rfl SL.out.2.1 SL.out.2.2.1 SL.out.2.2.2.1 ?_; rw [HW.out]) | (refine wpList_load_mid rfl 61 _ rfl xb 0 rfl B _ SL.out.1 Tryz.underlying61 rfl SL.out.2.2.2.2 ?_))
  go_ret
  exact ⟨rfl, c1, X.out⟩

set_option maxRecDepth 100000 in
set_option maxHeartbeats 1600000 in
theorem bytesAns_any (hok : Ok c w) (id : Int) {b : Blo} {k : Nat} {vc vv : Value} (hb : b.At c k w vc vv) (kx : Nat) :
    Calls Tryz.prog 41 #[.iface 61 (.agg (ansC id (bloC b vc vv)).toArray)] w fun r w' =>
      ∃ v, r = .returned (.tuple #[v, .int .i64 (ansE id b)]) ∧ ∃ c', Sl TByte c' kx 0 w' v (if ansE id b = 0 then encN id b else []) ∧ Step No c w c' w' ∧ Ok c' w' := by
  obtain ⟨q, hq, hqc⟩ := hok.top k
  have hq0 : q ≠ 0 := by omega
  have N := newWriter_any hok 65536 (by omega) (by omega) q (q + 1)
  have hl : (ansC id (bloC b vc vv)).length = 167 := by simp [ansC, bloC_len hb.h hb.hash]
  have h1 := ansC_one (id := id) (bloC_one hb)
  have hkw : ¬ Two q (q + 1) k := fun h => by rcases h with h | h <;> omega
  have HB := Lib.hid (And.intro hb (And.intro hl h1))
  clear hok hb hl h1
  obtain ⟨B, hB⟩ : ∃ B, ansC id (bloC b vc vv) = B := ⟨_, rfl⟩
  have HBe := Lib.hid hB
  rw [hB] at HB ⊢
  clear hB
  obtain ⟨L, hL⟩ : ∃ L, (if ansE id b = 0 then encN id b else []) = L := ⟨_, rfl⟩
  rw [hL]
  obtain ⟨e0, he0⟩ : ∃ e, ansE id b = e := ⟨_, rfl⟩
  rw [he0] at hL ⊢
  have HE0 := Lib.hid (And.intro he0 hL)
  clear he0 hL
  go_enter Tryz.func41, Tryz.ntmps41
  go_wp2_with fail
  with_reducible refine N.mono ?_
  rintro e w1 ⟨rfl, c1, i1, s1, o1⟩
  have O := ofAns_any o1 B HB.out.2.1 HB.out.2.2
  have X1 := Lib.hid (And.intro i1 s1)
  clear N i1 s1 o1
  go_wp2_with fail
  with_reducible refine O.mono ?_
  rintro e w2 ⟨rfl, c2, s2, o2⟩
  have AW := ansWrite_any o2 (X1.out.1.kn s2) hq0 (Nat.succ_ne_zero _) (by omega) id (HB.out.1.kn (X1.out.2.trans s2)) hkw
  rw [HBe.out] at AW
  have hm := fun W => ansMethod 421 B.toArray W
  simp only [mName, Tryz.t206, List.map_cons, List.headD_cons] at hm
  have X2 := Lib.hid (X1.out.2.trans s2)
  rw [HE0.out.1, HE0.out.2] at AW
  clear O s2 o2
  by_cases he : e0 = 0
  · subst he
    have hLe : L = encN id b := by have := HE0.out.2; rw [if_pos rfl] at this; exact this.symm
    go_wp2_with fail
    with_reducible refine AW.mono ?_
    rintro e w3 ⟨rfl, c3, i3, s3, o3⟩
    have hlen := encB_len HB.out.1 (ansE_ok HE0.out.1).2
    have D := done_any o3 i3 rfl (by have := numB_len 2; have := numB_len id.toNat; have := numB_len (encB b).length; rw [hLe]; simp only [encN, lpB, List.length_append]; omega) kx
    have X3 := Lib.hid ((X2.out.ofNo.trans s3).drop (K' := No) fun b _ e => by have := hqc b; rcases e with e | e <;> omega)
    clear AW i3 s3 o3 hm hlen hLe
    go_wp2_with fail
    with_reducible refine D.mono ?_
    rintro e w4 ⟨v, rfl, c4, sl4, s4, o4⟩
    have X4 := Lib.hid (And.intro sl4 (And.intro (X3.out.trans s4) o4))
    clear D sl4 s4 o4
    go_wp2_with fail
    go_ret2
    exact ⟨v, rfl, c4, X4.out⟩
  · have hLe : L = [] := by have := HE0.out.2; rw [if_neg he] at this; exact this.symm
    have HLe := Lib.hid hLe
    have he2 : (e0 != 0) = true := by rw [bne_iff_ne]; exact he
    clear he hLe
    go_wp2_with fail
    with_reducible refine AW.mono ?_
    rintro e w3 ⟨rfl, c3, i3, s3, o3⟩
    have X3 := Lib.hid (And.intro ((X2.out.ofNo.trans s3).drop (K' := No) fun b _ e => by have := hqc b; rcases e with e | e <;> omega) o3)
    clear AW i3 s3 o3 hm
    go_wp2_with fail
    go_ret2
    rw [HLe.out]
    exact ⟨_, rfl, c3, Sl.nil _ _ _ _ _, X3.out⟩

set_option maxRecDepth 100000 in
theorem answer_any (hok : Ok c w) (id : Int) {b : Blo} {k : Nat} {vc vv : Value} (hb : b.At c k w vc vv) (kx : Nat) :
    Calls Tryz.prog 27 #[.agg (ansC id (bloC b vc vv)).toArray] w fun r w' =>
      ∃ v, r = .returned (.tuple #[v, .int .i64 (ansE id b)]) ∧ ∃ c', Sl TByte c' kx 0 w' v (if ansE id b = 0 then encN id b else []) ∧ Step No c w c' w' ∧ Ok c' w' := by
  have a0 := At.new0 hok (ansC id (bloC b vc vv)) 61
  have o0 := hok.alloc (.cells (ansC id (bloC b vc vv)).toArray 61)
  have s0 : Step No c w c (w.alloc (.cells (ansC id (bloC b vc vv)).toArray 61)) := Step.refl.alloc _
  have BA := bytesAns_any o0 id (hb.kn s0) kx
  have hl : (ansC id (bloC b vc vv)).length = 167 := by simp [ansC, bloC_len hb.h hb.hash]
  obtain ⟨xb, hxb⟩ : ∃ b, w.heap.size = b := ⟨_, rfl⟩
  rw [hxb] at a0
  obtain ⟨B, hB⟩ : ∃ B, ansC id (bloC b vc vv) = B := ⟨_, rfl⟩
  rw [hB] at a0 o0 s0 BA hl ⊢
  obtain ⟨L, hL⟩ : ∃ L, (if ansE id b = 0 then encN id b else []) = L := ⟨_, rfl⟩
  obtain ⟨e0, he0⟩ : ∃ e, ansE id b = e := ⟨_, rfl⟩
  rw [hL] at BA ⊢
  rw [he0] at BA ⊢
  have SL := Lib.hid (And.intro a0.cells (And.intro (show (Tryz.prog.info? 61).map (·.size) = some B.length by rw [info_answer, hl]) s0))
  clear a0 o0 s0 hb hok hl hB hL he0
  go_enter Tryz.func27, Tryz.ntmps27
  go_wp2_with (refine wpList_load_mid rfl 61 _ rfl xb 0 rfl B _ SL.out.1 Tryz.underlying61 rfl SL.out.2.1 ?_)
  with_reducible refine BA.mono ?_
  rintro e w1 ⟨v, rfl, c1, sl1, s1, o1⟩
  have X := Lib.hid (And.intro sl1 (And.intro (SL.out.2.2.trans s1) o1))
  clear BA sl1 s1 o1
  go_wp2_with fail
  go_ret2
  exact ⟨v, rfl, c1, X.out⟩
end
end Go.Proofs.YtgcobbapaaihiaaGreat

set_option linter.unusedVariables false
set_option linter.unusedSimpArgs false
namespace Go.Proofs.YtgcobbapaaihiaaGreat
open Go.RowKit

theorem xor255_all : (List.range 256).all (fun n => bits .xor .u8 ((UInt8.ofNat n).toNat : Int) 255 == ((UInt8.ofNat n ^^^ 255).toNat : Int)) = true := by kernel_rfl
theorem xor255 (a : UInt8) : bits .xor .u8 (a.toNat : Int) 255 = ((a ^^^ 255).toNat : Int) := by
  have := List.all_eq_true.1 xor255_all a.toNat (List.mem_range.2 a.toNat_lt)
  rw [UInt8.ofNat_toNat] at this
  exact eq_of_beq this

/-- A function that turns an answer. -/
def Turns (f : Nat) (g : Int → Blo → Int × Blo) : Prop :=
  (∀ args w, (callFunc f args).run Tryz.prog w = .ok (.enter f args) w) ∧
  ∀ (c : Col) (w : World) (x q k : Nat) (id : Int) (b : Blo) (vc vv : Value), Ok c w → idB id = true → q ≠ 0 → ¬ k = q → b.At c k w vc vv → At c w x q (ansC id (bloC b vc vv)) →
    Calls Tryz.prog f #[.pointer (some ⟨x, 0, none⟩)] w fun r w' => r = .returned (.tuple #[]) ∧ ∃ c' vc' vv', At c' w' x q (ansC (g id b).1 (bloC (g id b).2 vc' vv')) ∧ (g id b).2.At c' k w' vc' vv' ∧ Step (One q) c w c' w' ∧ Ok c' w'

def gStay (id : Int) (b : Blo) : Int × Blo := (id, b)
def gOdd (id : Int) (b : Blo) : Int × Blo := (id + 1, b)
def gPoor (id : Int) (b : Blo) : Int × Blo := (id, { b with cm := { b.cm with votes := [] } })
def xorA : List UInt8 → List UInt8
  | [] => []
  | a :: r => (a ^^^ 255) :: r
def gBroken (id : Int) (b : Blo) : Int × Blo := (id, { b with h := { b.h with app := xorA b.h.app } })

set_option maxRecDepth 100000 in
theorem stay_turns : Turns 111 gStay := by
  refine ⟨enters_of Tryz.func111 (by kernel_rfl) rfl, ?_⟩
  intro c w x q k id b vc vv hok hid hq hk hb ha
  have H := Lib.hid (And.intro ha (And.intro hb hok))
  clear ha hb hok
  go_enter Tryz.func111, Tryz.ntmps111
  go_wp2_with fail
  first | go_end0 | refine bodyPost_ret (results_none rfl _ _ _) rfl ?_
  exact ⟨rfl, c, vc, vv, H.out.1, H.out.2.1, Step.refl, H.out.2.2⟩

set_option maxRecDepth 100000 in
theorem odd_turns : Turns 114 gOdd := by
  refine ⟨enters_of Tryz.func114 (by kernel_rfl) rfl, ?_⟩
  intro c w x q k id b vc vv hok hid hq hk hb ha
  have y0 := (ans_at ha.cells).1
  have yf := ha.fz hok hq 0
  have hid2 := hid
  simp only [idB, Bool.and_eq_true, decide_eq_true_eq] at hid2
  have hw : IntKind.i64.wrap (id + 1) = id + 1 := IntWalk.i64_in _ (by omega)
  have a2 := ha.setN (i := 0) (by simp [ansC]) (.int .i64 (id + 1))
  have e2 : (ansC id (bloC b vc vv)).set 0 (.int .i64 (id + 1)) = ansC (id + 1) (bloC b vc vv) := rfl
  rw [e2] at a2
  have s2 : Step (One q) c w c (w.setCell ⟨x, 0, none⟩ (.int .i64 (id + 1))) := (Step.refl (K := One q)).setCell (a := ⟨x, 0, none⟩) (.inr ha.col) _
  have H := Lib.hid (And.intro a2 (And.intro (hb.keep s2 hk) (And.intro s2 (hok.setCell ⟨x, 0, none⟩ (.int .i64 (id + 1))))))
  clear ha hb hok hid hid2 hk a2 s2 e2
  go_enter Tryz.func114, Tryz.ntmps114
  go_wp2_with fail
  first | go_end0 | refine bodyPost_ret (results_none rfl _ _ _) rfl ?_
  exact ⟨rfl, c, vc, vv, H.out.1, H.out.2.1, H.out.2.2.1, H.out.2.2.2⟩

theorem cmC_votes {x : Cmt} (h : x.hash.length = 32) (vc vc' : Value) : (cmC x vc).set 33 vc' = cmC x vc' := by
  have e2 : (bC x.hash).length = 32 := by rw [bC_len, h]
  unfold cmC
  rw [show (33 : Nat) = 32 + 1 from rfl, List.set_cons_succ, List.set_append_right _ _ (by omega), e2]
  rfl

set_option maxRecDepth 100000 in
theorem poor_turns : Turns 113 gPoor := by
  refine ⟨enters_of Tryz.func113 (by kernel_rfl) rfl, ?_⟩
  intro c w x q k id b vc vv hok hid hq hk hb ha
  have hl := bloC_len hb.h hb.hash vc vv
  have e1 : (hdrC b.h).length = 131 := hdrC_len hb.h
  have e3 : (cmC b.cm vc).length = 34 := cmC_len hb.hash vc
  have y0 : w.cell? ⟨x, 165, none⟩ = some vc := by
    have h1 := (bloC_at hb.h hb.hash (w := w) (bx := x) (o := 1) (ans_at ha.cells).2).2.1
    have h2 := (cells_app (xs := [.int .i64 b.cm.height]) h1).2
    have h3 := (cells_app h2).2 0 vc rfl
    simpa [bC_len, hb.hash] using h3
  obtain ⟨va, vn, rfl, _⟩ := hb.votes.form
  have yf := ha.fz hok hq 165
  have a2 := ha.setN (i := 165) (by simp [ansC, hl]) (.slice none 0 0)
  have e2 : (ansC id (bloC b (.slice va b.cm.votes.length vn) vv)).set 165 (.slice none 0 0) = ansC (gPoor id b).1 (bloC (gPoor id b).2 (.slice none 0 0) vv) := by
    unfold ansC bloC
    rw [show (165 : Nat) = 164 + 1 from rfl, List.set_cons_succ, List.set_append_right _ _ (by omega), e1, List.set_append_left _ _ (by omega), show (164 - 131 : Nat) = 33 from rfl, cmC_votes hb.hash]
    rfl
  rw [e2] at a2
  have s2 : Step (One q) c w c (w.setCell ⟨x, 165, none⟩ (.slice none 0 0)) := (Step.refl (K := One q)).setCell (a := ⟨x, 165, none⟩) (.inr ha.col) _
  have hb2 := hb.keep s2 hk
  have hb3 : (gPoor id b).2.At c k (w.setCell ⟨x, 165, none⟩ (.slice none 0 0)) (.slice none 0 0) vv := ⟨hb2.h, hb2.hash, hb2.height, Sl.nil _ _ _ _ _, hb2.vals, by simp [gPoor], hb2.nvals⟩
  have H := Lib.hid (And.intro a2 (And.intro hb3 (And.intro s2 (hok.setCell ⟨x, 165, none⟩ (.slice none 0 0)))))
  clear ha hb hok hid hk a2 s2 e2 hl e1 e3 hb2 hb3
  go_enter Tryz.func113, Tryz.ntmps113
  go_wp2_with fail
  first | go_end0 | refine bodyPost_ret (results_none rfl _ _ _) rfl ?_
  exact ⟨rfl, c, _, vv, H.out.1, H.out.2.1, H.out.2.2.1, H.out.2.2.2⟩

theorem hdrC_app {h : Hdr} (hw : h.Wf) {a : UInt8} {r : List UInt8} (ha : h.app = a :: r) (a' : UInt8) : (hdrC h).set 99 (.int .u8 a'.toNat) = hdrC { h with app := a' :: r } := by
  obtain ⟨_, _, _, h1, h2, h3, h4⟩ := hw
  have e1 : (bC h.prev).length = 32 := by rw [bC_len, h1]
  have e2 : (bC h.vals).length = 32 := by rw [bC_len, h2]
  have e3 : (bC h.next).length = 32 := by rw [bC_len, h3]
  unfold hdrC
  rw [show (99 : Nat) = 96 + 1 + 1 + 1 from rfl, List.set_cons_succ, List.set_cons_succ, List.set_cons_succ, List.set_append_right _ _ (by omega), e1, List.set_append_right _ _ (by omega), e2, List.set_append_right _ _ (by omega), e3, ha]
  rfl

set_option maxRecDepth 100000 in
set_option maxHeartbeats 1600000 in
theorem broken_turns : Turns 112 gBroken := by
  refine ⟨enters_of Tryz.func112 (by kernel_rfl) rfl, ?_⟩
  intro c w x q k id b vc vv hok hid hq hk hb ha
  obtain ⟨a, r, har⟩ : ∃ a r, b.h.app = a :: r := by
    cases h : b.h.app with
    | nil => have := hb.h.app; rw [h] at this; cases this
    | cons a r => exact ⟨a, r, rfl⟩
  have hl := bloC_len hb.h hb.hash vc vv
  have e1 : (hdrC b.h).length = 131 := hdrC_len hb.h
  have hg : (ansC id (bloC b vc vv))[100]? = some (.int .u8 a.toNat) := by
    have e11 : (bC b.h.prev).length = 32 := by rw [bC_len, hb.h.prev]
    have e12 : (bC b.h.vals).length = 32 := by rw [bC_len, hb.h.vals]
    have e13 : (bC b.h.next).length = 32 := by rw [bC_len, hb.h.next]
    unfold ansC bloC
    rw [show (100 : Nat) = 99 + 1 from rfl, List.getElem?_cons_succ, List.getElem?_append_left (by omega)]
    unfold hdrC
    rw [show (99 : Nat) = 96 + 1 + 1 + 1 from rfl, List.getElem?_cons_succ, List.getElem?_cons_succ, List.getElem?_cons_succ, List.getElem?_append_right (by omega), e11, List.getElem?_append_right (by omega), e12, List.getElem?_append_right (by omega), e13, har]
    rfl
  have y0 : w.cell? ⟨x, 100, none⟩ = some (.int .u8 a.toNat) := ha.get hg
  have yf := ha.fz hok hq 100
  have a2 := ha.setN (i := 100) (by simp [ansC, hl]) (.int .u8 (a ^^^ 255).toNat)
  have e2 : (ansC id (bloC b vc vv)).set 100 (.int .u8 (a ^^^ 255).toNat) = ansC (gBroken id b).1 (bloC (gBroken id b).2 vc vv) := by
    have h1 := hdrC_app hb.h har (a ^^^ 255)
    unfold ansC bloC
    rw [show (100 : Nat) = 99 + 1 from rfl, List.set_cons_succ, List.set_append_left _ _ (by omega), h1]
    simp only [gBroken, har, xorA]
  rw [e2] at a2
  have s2 : Step (One q) c w c (w.setCell ⟨x, 100, none⟩ (.int .u8 (a ^^^ 255).toNat)) := (Step.refl (K := One q)).setCell (a := ⟨x, 100, none⟩) (.inr ha.col) _
  have hb2 := hb.keep s2 hk
  have hb3 : (gBroken id b).2.At c k (w.setCell ⟨x, 100, none⟩ (.int .u8 (a ^^^ 255).toNat)) vc vv := ⟨⟨hb2.h.name, hb2.h.height, hb2.h.time, hb2.h.prev, hb2.h.vals, hb2.h.next, by have := hb2.h.app; rw [har] at this; simp only [gBroken, har, xorA]; simpa using this⟩, hb2.hash, hb2.height, hb2.votes, hb2.vals, hb2.nvotes, hb2.nvals⟩
  have hx := xor255 a
  have H := Lib.hid (And.intro a2 (And.intro hb3 (And.intro s2 (hok.setCell ⟨x, 100, none⟩ (.int .u8 (a ^^^ 255).toNat)))))
  have KK : (fun W : World => W.cell? ⟨x, 100, none⟩ = some (.int .u8 a.toNat) ∧ W.frozen? ⟨x, 100, none⟩ = false) w.drew := ⟨y0, yf⟩
  clear ha hb hok hid hk hl e1 hg y0 yf a2 e2 s2 hb2 hb3
  go_enter Tryz.func112, Tryz.ntmps112
  refine region_planM (fun W => W.cell? ⟨x, 100, none⟩ = some (.int .u8 a.toNat) ∧ W.frozen? ⟨x, 100, none⟩ = false) (fun i => !([13] : List Nat).contains i) (by kernel_rfl) ?_
  refine wpAnyM.one (i := 0) (by kernel_rfl) rfl (fun KQ hK => ?_)
  go_simp
  refine hK.out _ _ (fun _ => KK) ?_
  clear hK KQ
  (try simp only [Act.put, List.setIfInBounds_toArray, List.set_cons_zero, List.set_cons_succ])
  refine wpAnyM.takeT (i := 1) (v := _) (some 3) rfl rfl (by kernel_rfl) (by kernel_rfl) (by kernel_rfl) (by kernel_rfl) (by kernel_rfl) (fun _ _ _ h => h) (Or.inl ⟨by rfl, fun W hW => by first | (obtain ⟨q0, q1⟩ := hW; go_simp <;> rfl) | (obtain ⟨q0, q1⟩ := hW; go_simp; done)⟩) KK ?_
  (try simp only [Act.put, List.setIfInBounds_toArray, List.set_cons_zero, List.set_cons_succ])
  refine wpAnyM.takeT (i := 2) (v := _) (some 4) rfl rfl (by kernel_rfl) (by kernel_rfl) (by kernel_rfl) (by kernel_rfl) (by kernel_rfl) (fun _ _ _ h => h) (Or.inl ⟨by rfl, fun W hW => by first | (obtain ⟨q0, q1⟩ := hW; go_simp <;> rfl) | (obtain ⟨q0, q1⟩ := hW; go_simp; done)⟩) KK ?_
  (try simp only [Act.put, List.setIfInBounds_toArray, List.set_cons_zero, List.set_cons_succ])
  refine wpAnyM.takeT (i := 3) (v := _) (some 5) rfl rfl (by kernel_rfl) (by kernel_rfl) (by kernel_rfl) (by kernel_rfl) (by kernel_rfl) (fun _ _ _ h => h) (Or.inl ⟨by rfl, fun W hW => by first | (obtain ⟨q0, q1⟩ := hW; go_simp <;> rfl) | (obtain ⟨q0, q1⟩ := hW; go_simp; done)⟩) KK ?_
  (try simp only [Act.put, List.setIfInBounds_toArray, List.set_cons_zero, List.set_cons_succ])
  refine wpAnyM.takeT (i := 4) (v := _) (some 6) rfl rfl (by kernel_rfl) (by kernel_rfl) (by kernel_rfl) (by kernel_rfl) (by kernel_rfl) (fun _ _ _ h => h) (Or.inl ⟨by rfl, fun W hW => by first | (obtain ⟨q0, q1⟩ := hW; go_simp <;> rfl) | (obtain ⟨q0, q1⟩ := hW; go_simp; done)⟩) KK ?_
  (try simp only [Act.put, List.setIfInBounds_toArray, List.set_cons_zero, List.set_cons_succ])
  refine wpAnyM.takeT (i := 5) (v := _) (some 7) rfl rfl (by kernel_rfl) (by kernel_rfl) (by kernel_rfl) (by kernel_rfl) (by kernel_rfl) (fun _ _ _ h => h) (Or.inl ⟨by rfl, fun W hW => by first | (obtain ⟨q0, q1⟩ := hW; go_simp <;> rfl) | (obtain ⟨q0, q1⟩ := hW; go_simp; done)⟩) KK ?_
  (try simp only [Act.put, List.setIfInBounds_toArray, List.set_cons_zero, List.set_cons_succ])
  refine wpAnyM.takeT (i := 6) (v := _) (some 8) rfl rfl (by kernel_rfl) (by kernel_rfl) (by kernel_rfl) (by kernel_rfl) (by kernel_rfl) (fun _ _ _ h => h) (Or.inl ⟨by rfl, fun W hW => by first | (obtain ⟨q0, q1⟩ := hW; go_simp <;> rfl) | (obtain ⟨q0, q1⟩ := hW; go_simp; done)⟩) KK ?_
  (try simp only [Act.put, List.setIfInBounds_toArray, List.set_cons_zero, List.set_cons_succ])
  refine wpAnyM.takeT (i := 7) (v := _) (some 9) rfl rfl (by kernel_rfl) (by kernel_rfl) (by kernel_rfl) (by kernel_rfl) (by kernel_rfl) (fun _ _ _ h => h) (Or.inl ⟨by rfl, fun W hW => by first | (obtain ⟨q0, q1⟩ := hW; go_simp <;> rfl) | (obtain ⟨q0, q1⟩ := hW; go_simp; done)⟩) KK ?_
  (try simp only [Act.put, List.setIfInBounds_toArray, List.set_cons_zero, List.set_cons_succ])
  refine wpAnyM.one (i := 8) (by kernel_rfl) rfl (fun KQ hK => ?_)
  go_simp
  refine hK.out _ _ (fun _ => KK) ?_
  clear hK KQ
  (try simp only [Act.put, List.setIfInBounds_toArray, List.set_cons_zero, List.set_cons_succ])
  refine wpAnyM.one (i := 9) (by kernel_rfl) rfl (fun KQ hK => ?_)
  go_simp
  refine hK.out _ _ (fun _ => KK) ?_
  clear hK KQ
  (try simp only [Act.put, List.setIfInBounds_toArray, List.set_cons_zero, List.set_cons_succ])
  refine wpAnyM.one (i := 10) (by kernel_rfl) rfl (fun KQ hK => ?_)
  go_simp
  refine hK.out _ _ (fun _ => KK) ?_
  clear hK KQ
  (try simp only [Act.put, List.setIfInBounds_toArray, List.set_cons_zero, List.set_cons_succ])
  refine wpAnyM.one (i := 11) (by kernel_rfl) rfl (fun KQ hK => ?_)
  go_simp
  refine hK.out _ _ (fun _ => KK) ?_
  clear hK KQ
  (try simp only [Act.put, List.setIfInBounds_toArray, List.set_cons_zero, List.set_cons_succ])
  refine wpAnyM.one (i := 12) (by kernel_rfl) rfl (fun KQ hK => ?_)
  go_simp
  refine hK.out _ _ (fun _ => KK) ?_
  clear hK KQ
  (try simp only [Act.put, List.setIfInBounds_toArray, List.set_cons_zero, List.set_cons_succ])
  refine wpAnyM.one (i := 13) (by kernel_rfl) rfl (fun KQ hK => ?_)
  go_simp
  refine hK.out _ _ (fun h => absurd h (by decide)) ?_
  clear hK KQ
  (try simp only [Act.put, List.setIfInBounds_toArray, List.set_cons_zero, List.set_cons_succ])
  refine wpAnyM.done (by kernel_rfl) ?_ _
  first | go_end0 | refine bodyPost_ret (results_none rfl _ _ _) rfl ?_
  exact ⟨rfl, c, vc, vv, H.out.1.keep (Step.rf.drewN (K := No) 1) (fun h => h), H.out.2.1.kn (Step.rf.drewN 1), H.out.2.2.1.drewN 1, H.out.2.2.2.drewN 1⟩
end Go.Proofs.YtgcobbapaaihiaaGreat

set_option linter.unusedVariables false
set_option linter.unusedSimpArgs false
namespace Go.Proofs.YtgcobbapaaihiaaGreat
open Go.RowKit

/-- A desk's cells. -/
def deskC (s : Srv) (vc vo vm : Value) (id h ticks : Int) : List Value := [vc, vo, vm, .int .i64 s.delay, .int .i64 s.slow, .int .i64 id, .int .i64 h, .int .i64 ticks]

section
variable {c : Col} {w : World}

set_option maxRecDepth 100000 in
set_option maxHeartbeats 1600000 in
theorem own_any (hok : Ok c w) {s : Srv} {k kd db : Nat} {vc vo vm : Value} (hs : s.At c k w vc vo vm) {id h ticks : Int} (hd : At c w db kd (deskC s vc vo vm id h ticks)) :
    Calls Tryz.prog 109 #[.pointer (some ⟨db, 0, none⟩)] w fun r w' => ∃ bc bv, r = .returned (.tuple #[.agg (bloC (getD0 s.chain h) bc bv).toArray, .bool (getB s.chain h).isSome]) ∧ ∃ c', (getD0 s.chain h).At c' 0 w' bc bv ∧ Step No c w c' w' ∧ Ok c' w' := by
  obtain ⟨q, hq, hqc⟩ := hok.top (k + kd)
  have hq0 : q ≠ 0 := by omega
  obtain ⟨vca, vcc, rfl, _⟩ := hs.chain.form
  obtain ⟨ar, or_, sr⟩ := newAt hok zeroBC 59 q
  obtain ⟨rb, hrb⟩ : ∃ b, w.heap.size = b := ⟨_, rfl⟩
  have hd1 := hd.keep sr (fun h => h)
  have GT := get_any (or_.drewN 1) ((hs.chain.kn sr).kn (Step.rf.drewN 1)) hs.nchain h
  have hzl : zeroBC.length = 166 := by decide
  have HZ := Lib.hid zeroB_zero
  obtain ⟨ZB, hZB⟩ : ∃ Z, zeroBC = Z := ⟨_, rfl⟩
  rw [hZB] at HZ ar or_ sr GT hd1 hzl
  obtain ⟨W1, hW1⟩ : ∃ W, w.alloc (.cells ZB.toArray 59) = W := ⟨_, rfl⟩
  rw [hrb] at ar or_ sr hd1 GT
  rw [hW1] at ar or_ sr hd1 GT
  obtain ⟨c1, hc1⟩ : ∃ c1, c.put rb q = c1 := ⟨_, rfl⟩
  rw [hc1] at ar or_ sr hd1 GT
  have KK : (fun W : World => W.cell? ⟨db, 0, none⟩ = some (.slice vca s.chain.length vcc) ∧ W.cell? ⟨db, 6, none⟩ = some (.int .i64 h)) W1.drew := ⟨hd1.get (i := 0) rfl, hd1.get (i := 6) rfl⟩
  have hdl : db < W1.drew.heap.size := hd1.lt
  have X1 := Lib.hid (And.intro ar sr)
  clear ar or_ sr hd1 hd hs hok hc1 hZB
  go_enter Tryz.func109, Tryz.ntmps109
  go_wp2_with (refine wpList_alloc_zero rfl (some 2) rfl 59 rfl HZ.out ?_)
  (try rw [hrb])
  (try rw [hW1])
  refine region_planM (fun W => W.cell? ⟨db, 0, none⟩ = some (.slice vca s.chain.length vcc) ∧ W.cell? ⟨db, 6, none⟩ = some (.int .i64 h)) (fun i => !([13, 14] : List Nat).contains i) (by kernel_rfl) ?_
  refine wpAnyM.takeT (i := 0) (v := _) (some 4) rfl rfl (by kernel_rfl) (by kernel_rfl) (by kernel_rfl) (by kernel_rfl) (by kernel_rfl) (fun _ _ _ h => h) (Or.inl ⟨by rfl, fun W hW => by first | (obtain ⟨q0, q1⟩ := hW; go_simp <;> rfl) | (obtain ⟨q0, q1⟩ := hW; go_simp; done)⟩) KK ?_
  (try simp only [Act.put, List.setIfInBounds_toArray, List.set_cons_zero, List.set_cons_succ])
  refine wpAnyM.takeT (i := 1) (v := _) (some 5) rfl rfl (by kernel_rfl) (by kernel_rfl) (by kernel_rfl) (by kernel_rfl) (by kernel_rfl) (fun _ _ _ h => h) (Or.inl ⟨by rfl, fun W hW => by first | (obtain ⟨q0, q1⟩ := hW; go_simp <;> rfl) | (obtain ⟨q0, q1⟩ := hW; go_simp; done)⟩) KK ?_
  (try simp only [Act.put, List.setIfInBounds_toArray, List.set_cons_zero, List.set_cons_succ])
  refine wpAnyM.takeT (i := 2) (v := _) (some 6) rfl rfl (by kernel_rfl) (by kernel_rfl) (by kernel_rfl) (by kernel_rfl) (by kernel_rfl) (fun _ _ _ h => h) (Or.inl ⟨by rfl, fun W hW => by first | (obtain ⟨q0, q1⟩ := hW; go_simp <;> rfl) | (obtain ⟨q0, q1⟩ := hW; go_simp; done)⟩) KK ?_
  (try simp only [Act.put, List.setIfInBounds_toArray, List.set_cons_zero, List.set_cons_succ])
  refine wpAnyM.takeT (i := 3) (v := _) (some 7) rfl rfl (by kernel_rfl) (by kernel_rfl) (by kernel_rfl) (by kernel_rfl) (by kernel_rfl) (fun _ _ _ h => h) (Or.inl ⟨by rfl, fun W hW => by first | (obtain ⟨q0, q1⟩ := hW; go_simp <;> rfl) | (obtain ⟨q0, q1⟩ := hW; go_simp; done)⟩) KK ?_
  (try simp only [Act.put, List.setIfInBounds_toArray, List.set_cons_zero, List.set_cons_succ])
  refine wpAnyM.takeT (i := 4) (v := _) (some 8) rfl rfl (by kernel_rfl) (by kernel_rfl) (by kernel_rfl) (by kernel_rfl) (by kernel_rfl) (fun _ _ _ h => h) (Or.inl ⟨by rfl, fun W hW => by first | (obtain ⟨q0, q1⟩ := hW; go_simp <;> rfl) | (obtain ⟨q0, q1⟩ := hW; go_simp; done)⟩) KK ?_
  (try simp only [Act.put, List.setIfInBounds_toArray, List.set_cons_zero, List.set_cons_succ])
  refine wpAnyM.takeT (i := 5) (v := _) (some 9) rfl rfl (by kernel_rfl) (by kernel_rfl) (by kernel_rfl) (by kernel_rfl) (by kernel_rfl) (fun _ _ _ h => h) (Or.inl ⟨by rfl, fun W hW => by first | (obtain ⟨q0, q1⟩ := hW; go_simp <;> rfl) | (obtain ⟨q0, q1⟩ := hW; go_simp; done)⟩) KK ?_
  (try simp only [Act.put, List.setIfInBounds_toArray, List.set_cons_zero, List.set_cons_succ])
  refine wpAnyM.takeT (i := 6) (v := _) (some 10) rfl rfl (by kernel_rfl) (by kernel_rfl) (by kernel_rfl) (by kernel_rfl) (by kernel_rfl) (fun _ _ _ h => h) (Or.inl ⟨by rfl, fun W hW => by first | (obtain ⟨q0, q1⟩ := hW; go_simp <;> rfl) | (obtain ⟨q0, q1⟩ := hW; go_simp; done)⟩) KK ?_
  (try simp only [Act.put, List.setIfInBounds_toArray, List.set_cons_zero, List.set_cons_succ])
  refine wpAnyM.takeT (i := 7) (v := _) (some 11) rfl rfl (by kernel_rfl) (by kernel_rfl) (by kernel_rfl) (by kernel_rfl) (by kernel_rfl) (fun _ _ _ h => h) (Or.inl ⟨by rfl, fun W hW => by first | (obtain ⟨q0, q1⟩ := hW; go_simp <;> rfl) | (obtain ⟨q0, q1⟩ := hW; go_simp; done)⟩) KK ?_
  (try simp only [Act.put, List.setIfInBounds_toArray, List.set_cons_zero, List.set_cons_succ])
  refine wpAnyM.takeT (i := 8) (v := _) (some 12) rfl rfl (by kernel_rfl) (by kernel_rfl) (by kernel_rfl) (by kernel_rfl) (by kernel_rfl) (fun _ _ _ h => h) (Or.inl ⟨by rfl, fun W hW => by first | (obtain ⟨q0, q1⟩ := hW; go_simp <;> rfl) | (obtain ⟨q0, q1⟩ := hW; go_simp; done)⟩) KK ?_
  (try simp only [Act.put, List.setIfInBounds_toArray, List.set_cons_zero, List.set_cons_succ])
  refine wpAnyM.takeT (i := 9) (v := _) (some 13) rfl rfl (by kernel_rfl) (by kernel_rfl) (by kernel_rfl) (by kernel_rfl) (by kernel_rfl) (fun _ _ _ h => h) (Or.inl ⟨by rfl, fun W hW => by first | (obtain ⟨q0, q1⟩ := hW; go_simp <;> rfl) | (obtain ⟨q0, q1⟩ := hW; go_simp; done)⟩) KK ?_
  (try simp only [Act.put, List.setIfInBounds_toArray, List.set_cons_zero, List.set_cons_succ])
  refine wpAnyM.one (i := 10) (by kernel_rfl) rfl (fun KQ hK => ?_)
  go_simp
  refine GT.mono ?_
  rintro e w3 ⟨bc, bv, rfl, c3, b3, s3, o3⟩
  have KK : (fun W : World => W.cell? ⟨db, 0, none⟩ = some (.slice vca s.chain.length vcc) ∧ W.cell? ⟨db, 6, none⟩ = some (.int .i64 h)) w3 := ⟨(s3.cell hdl (fun h => h)).trans KK.1, (s3.cell hdl (fun h => h)).trans KK.2⟩
  have ar3 := (X1.out.1.keep (Step.rf.drewN (K := No) 1) (fun h => h)).keep s3 (fun h => h)
  have hRl := bloC_len b3.h b3.hash bc bv
  have hR1 := bloC_one b3
  obtain ⟨G, hG⟩ : ∃ G, getD0 s.chain h = G := ⟨_, rfl⟩
  obtain ⟨T, hT⟩ : ∃ T, (getB s.chain h).isSome = T := ⟨_, rfl⟩
  rw [hG] at b3 hRl hR1 ⊢
  rw [hT]
  obtain ⟨R, hR⟩ : ∃ R, bloC G bc bv = R := ⟨_, rfl⟩
  rw [hR] at hRl hR1 ⊢
  have hi0 : (Tryz.prog.info? 59).map (·.size) = some R.length := by rw [info_blo, hRl]
  have hi1 : (Tryz.prog.info? 59).map (·.size) = some R.toArray.size := by rw [info_blo]; simp [hRl]
  have ht0 := ar3.there (o := 0) (n := R.toArray.size) o3 hq0 (by simp [hRl, hzl])
  obtain ⟨_, a4⟩ := ar3.st o3 hq0 (ty := 59) (us := R) (by rw [hRl, hzl]) hi0 hR1
  have s4 : Step (One q) c3 w3 c3 (w3.setCells rb 0 R) := Step.setCells (K := One q) (.inr ar3.col) _ _ _ Step.refl
  have b4 := b3.keep s4 (show ¬ 0 = q by omega)
  have o4 := Ok.setCells (b := rb) R 0 _ o3
  have sAll : Step No c w c3 (w3.setCells rb 0 R) := ((((X1.out.2.drewN 1).trans s3).ofNo (K := One q)).trans s4).drop fun b _ (e : c b = q) => by have := hqc b; omega
  have FL := Lib.hid (And.intro ht0 (And.intro hi1 (And.intro (all_oneCell_toArray hR1) (And.intro a4.cells (And.intro hi0 (And.intro b4 (And.intro sAll (And.intro o4 (And.intro hG (And.intro hT hR))))))))))
  clear ar3 hRl hR1 hi0 hi1 ht0 a4 s4 b4 o4 sAll b3 s3 o3 hG hT hR GT
  go_simp
  refine hK.out _ _ (fun _ => KK) ?_
  clear hK KQ
  (try simp only [Act.put, List.setIfInBounds_toArray, List.set_cons_zero, List.set_cons_succ])
  refine wpAnyM.takeT (i := 11) (v := _) (some 15) rfl rfl (by kernel_rfl) (by kernel_rfl) (by kernel_rfl) (by kernel_rfl) (by kernel_rfl) (fun _ _ _ h => h) (Or.inl ⟨by rfl, fun W hW => by first | (obtain ⟨q0, q1⟩ := hW; go_simp <;> rfl) | (obtain ⟨q0, q1⟩ := hW; go_simp; done)⟩) KK ?_
  (try simp only [Act.put, List.setIfInBounds_toArray, List.set_cons_zero, List.set_cons_succ])
  refine wpAnyM.takeT (i := 12) (v := _) (some 16) rfl rfl (by kernel_rfl) (by kernel_rfl) (by kernel_rfl) (by kernel_rfl) (by kernel_rfl) (fun _ _ _ h => h) (Or.inl ⟨by rfl, fun W hW => by first | (obtain ⟨q0, q1⟩ := hW; go_simp <;> rfl) | (obtain ⟨q0, q1⟩ := hW; go_simp; done)⟩) KK ?_
  (try simp only [Act.put, List.setIfInBounds_toArray, List.set_cons_zero, List.set_cons_succ])
  refine wpAnyM.one (i := 13) (by kernel_rfl) rfl (fun KQ hK => ?_)
  refine step_store rfl 59 _ _ rfl rb 0 R.toArray rfl rfl FL.out.1 FL.out.2.1 FL.out.2.2.1 ?_
  simp only [List.toList_toArray]
  refine hK.out _ _ (fun h => absurd h (by decide)) ?_
  clear hK KQ
  (try simp only [Act.put, List.setIfInBounds_toArray, List.set_cons_zero, List.set_cons_succ])
  refine wpAnyM.one (i := 14) (by kernel_rfl) rfl (fun KQ hK => ?_)
  go_simp
  refine hK.out _ _ (fun h => absurd h (by decide)) ?_
  clear hK KQ
  (try simp only [Act.put, List.setIfInBounds_toArray, List.set_cons_zero, List.set_cons_succ])
  refine wpAnyM.done (by kernel_rfl) ?_ _
  go_wp2_with fail
  obtain ⟨_, _, _, f4, f5, f6, f7, f8, f9, f10, f11⟩ := FL.out
  refine bodyPost_ret (results_cell_mid2' rfl _ _ rb 0 R _ rfl f4 Tryz.underlying59 rfl f5) rfl ⟨bc, bv, by rw [f9, f10, f11]; rfl, c3, by rw [f9]; exact f6, f7, f8⟩
end
end Go.Proofs.YtgcobbapaaihiaaGreat
