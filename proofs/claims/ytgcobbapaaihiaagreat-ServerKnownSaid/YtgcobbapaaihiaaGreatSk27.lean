/- ServerKnown, part 27: lemmas, each with its own conditions. -/
import Derived.Test.YtgcobbapaaihiaaGreatSk01
import Derived.Test.YtgcobbapaaihiaaGreatSk05
import Derived.Test.YtgcobbapaaihiaaGreatSk20
import Derived.Test.YtgcobbapaaihiaaGreatSk26
import Derived.DeepKeys5
import Derived.Carry
import Derived.RangeFuncRecord
import Derived.LoopN
import Derived.Great.BuildSlice
set_option linter.unusedVariables false
set_option linter.unusedSimpArgs false
namespace Go.Proofs.YtgcobbapaaihiaaGreat
open Go.RowKit

/-- Validators whose set may be, of a good length. -/
structure VOk (l : List Vld) : Prop where
  check : checkV l = 0
  odd : (encV l).length % 64 ≠ 0
  short : (encV l).length ≤ 900000
  len : l.length ≤ 1000000000
def hdr1 (h : Int) (prev z : List UInt8) : Hdr := ⟨[97], h, 10 + (h - 1) * 10, prev, zeros, z, zeros⟩
def hdr2 (h : Int) (prev z x : List UInt8) : Hdr := ⟨[97], h, 10 + (h - 1) * 10, prev, x, z, zeros⟩
def blo2 (h : Int) (prev z x y : List UInt8) (l : List Vld) : Blo := ⟨hdr2 h prev z x, ⟨h, y, []⟩, l⟩

theorem hdr1_wf {h : Int} (hh : 1 ≤ h ∧ h ≤ 3) {prev z : List UInt8} (hp : prev.length = 32) (hz : z.length = 32) : (hdr1 h prev z).Wf := by
  obtain ⟨h1, h2⟩ := hh
  have g : ∀ n : Int, 0 ≤ n → n ≤ 100 → IntKind.i64.has n := fun n h1 h2 => ⟨Int.le_trans (by decide) h1, Int.le_trans h2 (by decide)⟩
  exact ⟨by simp [hdr1], g h (by omega) (by omega), g (10 + (h - 1) * 10) (by omega) (by omega), hp, by simp [hdr1, zeros], hz, by simp [hdr1, zeros]⟩
theorem hdr1_check {h : Int} (hh : 1 ≤ h ∧ h ≤ 3) (prev z : List UInt8) : checkH (hdr1 h prev z) = 0 := by
  obtain ⟨h1, h2⟩ := hh
  rcases (by omega : h = 1 ∨ h = 2 ∨ h = 3) with rfl | rfl | rfl <;> rfl
theorem hdr2_len {h : Int} (hh : 1 ≤ h ∧ h ≤ 3) {prev z x : List UInt8} (hp : prev.length = 32) (hz : z.length = 32) (hx : x.length = 32) : (encH (hdr2 h prev z x)).length = 135 := by
  obtain ⟨h1, h2⟩ := hh
  have e1 : (numB 1).length = 2 := by decide
  have e2 : (numB 2).length = 2 := by decide
  have e3 : (numB 3).length = 2 := by decide
  have e10 : (numB 10).length = 2 := by decide
  have e20 : (numB 20).length = 2 := by decide
  have e30 : (numB 30).length = 2 := by decide
  rcases (by omega : h = 1 ∨ h = 2 ∨ h = 3) with rfl | rfl | rfl
  · simp [encH, hdr2, hp, hz, hx, zeros, e1, e10]
  · simp [encH, hdr2, hp, hz, hx, zeros, e1, e2, e20]
  · simp [encH, hdr2, hp, hz, hx, zeros, e1, e3, e30]

section
variable {c : Col} {w : World}

set_option maxRecDepth 100000 in
set_option maxHeartbeats 3200000 in
theorem of_built (hok : Ok c w) {bb kb : Nat} (hkb : kb ≠ 0) {vv mp sv : Value} {B : List Value} (hB : B.length = 166) {h : Int} (hh : 1 ≤ h ∧ h ≤ 3) {prev : List UInt8} (hp : prev.length = 32) (hd : At c w bb kb (bdC vv mp (hdrC (hdr0 h prev)) B sv))
    {l : List Vld} (hl : VOk l) {vs vn : Value} (h1 : Sl TVal c 0 0 w vs l) (h2 : Sl TVal c 0 0 w vn l) :
    Calls Tryz.prog 88 #[.pointer (some ⟨bb, 0, none⟩), vs, vn] w fun r w' => r = .returned (.pointer (some ⟨bb, 0, none⟩)) ∧
      ∃ (z x y : List UInt8) (bv : Value) (c' : Col), z.length = 32 ∧ x.length = 32 ∧ y.length = 32 ∧ At c' w' bb kb (bdC vv mp (hdrC (hdr1 h prev z)) (bloC (blo2 h prev z x y l) (.slice none 0 0) bv) sv) ∧
        (blo2 h prev z x y l).At c' 0 w' (.slice none 0 0) bv ∧ Step (One kb) c w c' w' ∧ Ok c' w' := by
  have HV := hashV_ok hok h2 hl.check hl.odd hl.short
  obtain ⟨na, nn, rfl, _⟩ := h2.form
  obtain ⟨sa, sn, rfl, _⟩ := h1.form
  have X := Lib.hid (And.intro hok (And.intro hd (And.intro hl h1)))
  obtain ⟨n, hn⟩ : ∃ n, l.length = n := ⟨_, rfl⟩
  rw [hn] at HV X ⊢
  have Y := Lib.hid (And.intro hn (And.intro hh (And.intro hp hB)))
  clear hok hd hl h1 h2 hn hh hp hB
  go_enter Tryz.func88, Tryz.ntmps88
  go_wp2_with fail
  with_reducible refine HV.mono ?_
  rintro e w1 ⟨z, hz, rfl, c1, s1, o1⟩
  have hzl : (bC z).length = 32 := by rw [bC_len, hz]
  obtain ⟨_, hd, hl, h1⟩ := X.out
  obtain ⟨hn, hh, hp, hB⟩ := Y.out
  have d1 := hd.kn s1
  have e0 : bdC vv mp (hdrC (hdr0 h prev)) B sv = (recC vv ++ (mp :: .string ⟨#[97]⟩ :: .int .i64 h :: .int .i64 (10 + (h - 1) * 10) :: (bC prev ++ bC zeros))) ++ (bC zeros ++ (bC zeros ++ (B ++ [sv]))) := by simp [bdC, hdrC, hdr0]
  have e1 : (recC vv ++ (mp :: .string ⟨#[97]⟩ :: .int .i64 h :: .int .i64 (10 + (h - 1) * 10) :: (bC prev ++ bC zeros))).length = 77 := by simp [recC, bC_len, hp, zeros]
  rw [e0] at d1
  obtain ⟨d2, t0⟩ := d1.seg o1 hkb (us := bC z) (by rw [hzl, bC_len]; rfl)
  rw [e1] at d2 t0
  have e2 : (recC vv ++ (mp :: .string ⟨#[97]⟩ :: .int .i64 h :: .int .i64 (10 + (h - 1) * 10) :: (bC prev ++ bC zeros))) ++ (bC z ++ (bC zeros ++ (B ++ [sv]))) = bdC vv mp (hdrC (hdr1 h prev z)) B sv := by simp [bdC, hdrC, hdr1]
  rw [e2] at d2
  have s2 : Step (One kb) c1 w1 c1 (w1.setCells bb 77 (bC z)) := Step.setCells (K := One kb) (.inr d1.col) _ _ _ Step.refl
  have o2 := Ok.setCells (b := bb) (bC z) 77 _ o1
  have h12 := (h1.kn s1).keep s2 (show ¬ 0 = kb by omega) (show ¬ 0 = kb by omega)
  have hwf := hdr1_wf hh hp hz
  rw [← hn] at h12
  have MK := make_any o2 (hdr1 h prev z) hwf (hdr1_check hh prev z) h12 hl.check hl.odd hl.short hl.len (fun x hx => by
    have := hdr2_len hh hp hz hx
    have e : ({ hdr1 h prev z with vals := x } : Hdr) = hdr2 h prev z x := rfl
    rw [e, this]; exact ⟨by decide, by decide⟩)
  have hHl := hdrC_len hwf
  rw [hn] at MK
  obtain ⟨Z, hZ⟩ : ∃ Z, bC z = Z := ⟨_, rfl⟩
  obtain ⟨W2, hW2⟩ : ∃ W, w1.setCells bb 77 (bC z) = W := ⟨_, rfl⟩
  rw [hW2] at d2 s2 o2 MK
  have e3 : bdC vv mp (hdrC (hdr1 h prev z)) B sv = (recC vv ++ [mp]) ++ (hdrC (hdr1 h prev z) ++ (B ++ [sv])) := by simp [bdC]
  have hr : CellsAt W2 bb 10 (hdrC (hdr1 h prev z)) := by
    have := d2.cells
    rw [e3] at this
    have h2 := (cells_app this).2
    rw [Nat.zero_add] at h2
    exact (cells_app h2).1
  obtain ⟨H1, hH1⟩ : ∃ H, hdrC (hdr1 h prev z) = H := ⟨_, rfl⟩
  rw [hH1] at d2 MK hr hHl
  rw [hZ] at hW2 t0 hzl ⊢
  have hz1 : Z.toArray.all (·.oneCell') = true := by rw [← hZ]; exact all_oneCell_toArray (bC_one z)
  have T := Lib.hid (And.intro (show w1.there bb 77 Z.toArray.size by simpa using t0) (And.intro (show (Tryz.prog.info? 51).map (·.size) = some Z.toArray.size by rw [info_hash]; simp [hzl]) (And.intro hz1 (And.intro hW2 (And.intro hr (show (Tryz.prog.info? 53).map (·.size) = some H1.length by rw [info_hdr, hHl]))))))
  have X2 := Lib.hid (And.intro d2 (And.intro ((s1.ofNo (K := One kb)).trans s2) (And.intro o2 (And.intro hz (And.intro hH1 hHl)))))
  clear HV X s1 o1 d1 d2 t0 e0 e1 e2 e3 s2 o2 h12 hwf hHl hr hzl hz1 hW2 hH1 hZ hl h1 hd hn hh hp hB hz
  go_wp2_with (first | (refine wpList_store_mid rfl 51 _ _ rfl bb 77 Z.toArray rfl rfl T.out.1 T.out.2.1 T.out.2.2.1 ?_; rw [T.out.2.2.2.1]) | (refine wpList_load_mid rfl 53 _ rfl bb 10 rfl H1 _ T.out.2.2.2.2.1 Tryz.underlying53 rfl T.out.2.2.2.2.2 ?_))
  with_reducible refine MK.mono ?_
  rintro e w3 ⟨x, y, bv, hx, hy, rfl, c3, b3, s3, o3⟩
  obtain ⟨d2, s2, o2, hz, hH1, hHl⟩ := X2.out
  obtain ⟨hn, hh, hp, hB⟩ := Y.out
  have b3' : (blo2 h prev z x y l).At c3 0 w3 (.slice none 0 0) bv := b3
  have hbl := bloC_len b3'.h b3'.hash (.slice none 0 0) bv
  have hb1 := bloC_one b3'
  have d3 := d2.kn s3
  have e0 : bdC vv mp H1 B sv = (recC vv ++ (mp :: H1)) ++ (B ++ [sv]) := by simp [bdC]
  have e1 : (recC vv ++ (mp :: H1)).length = 141 := by simp [recC, hHl]
  rw [e0] at d3
  obtain ⟨U, hU⟩ : ∃ U, bloC (blo2 h prev z x y l) (.slice none 0 0) bv = U := ⟨_, rfl⟩
  rw [show bloC ⟨{ hdr1 h prev z with vals := x }, ⟨(hdr1 h prev z).height, y, []⟩, l⟩ (.slice none 0 0) bv = U from hU]
  rw [hU] at hbl hb1
  obtain ⟨d4, t4⟩ := d3.seg o3 hkb (us := U) (by rw [hbl, hB])
  rw [e1] at d4 t4
  have e2 : (recC vv ++ (mp :: H1)) ++ (U ++ [sv]) = bdC vv mp H1 U sv := by simp [bdC]
  rw [e2] at d4
  have s4 : Step (One kb) c3 w3 c3 (w3.setCells bb 141 U) := Step.setCells (K := One kb) (.inr d3.col) _ _ _ Step.refl
  have o4 := Ok.setCells (b := bb) U 141 _ o3
  have b4 := b3'.keep s4 (show ¬ 0 = kb by omega)
  have F := Lib.hid (And.intro d4 (And.intro b4 (And.intro ((s2.trans s3.ofNo).trans s4) (And.intro o4 (And.intro hz (And.intro hx (And.intro hy (And.intro hH1 hU))))))))
  have T4 := Lib.hid (And.intro (show w3.there bb 141 U.toArray.size by simpa using t4) (And.intro (show (Tryz.prog.info? 59).map (·.size) = some U.toArray.size by rw [info_blo]; simp [hbl]) (all_oneCell_toArray hb1)))
  clear MK X2 b3 b3' hbl hb1 d3 d4 t4 e0 e1 e2 s3 o3 s4 o4 b4 d2 s2 o2 hz hx hy hH1 hHl hn hh hp hB hU
  go_wp2_with (refine wpList_store_mid rfl 59 _ _ rfl bb 141 U.toArray rfl rfl T4.out.1 T4.out.2.1 T4.out.2.2 ?_)
  go_ret
  obtain ⟨f1, f2, f3, f4, f5, f6, f7, f8, f9⟩ := F.out
  refine ⟨rfl, z, x, y, bv, c3, f5, f6, f7, ?_, f2, f3, f4⟩
  rw [f8, f9]; exact f1
end
end Go.Proofs.YtgcobbapaaihiaaGreat

set_option linter.unusedVariables false
set_option linter.unusedSimpArgs false
namespace Go.Proofs.YtgcobbapaaihiaaGreat
open Go.RowKit Go.WideMaps

/-- A map in memory, of colour k: what it tells of each key; at most n entries. -/
structure IsMap {κ ν : Type} (P : Program) (kt : TypeId) (kv : κ → Value) (vv : ν → Value) (c : Col) (k : Nat) (w : World) (b : Nat) (m : κ → Option ν) (n : Nat) : Prop where
  col : c b = k
  obj : ∃ es clock, w.heap[b]? = some (.map es clock) ∧ es.size ≤ n ∧ (es.toList.map (·.key)).Nodup ∧ (∀ x ∈ es.toList, ∃ l, keyOf P kt x.key = some l) ∧
    (∀ x ∈ es.toList, ∃ y z, x.key = kv y ∧ x.val = vv z ∧ m y = some z) ∧ (∀ y z, m y = some z → ∃ x ∈ es.toList, x.key = kv y ∧ x.val = vv z)

/-- What a look-up answers. -/
def getV {ν : Type} (vv : ν → Value) (zv : Value) : Option ν → Value
  | some z => vv z
  | none => zv

section
variable {κ ν : Type} {P : Program} {t kt e : TypeId} {kv : κ → Value} {vv : ν → Value} {c : Col} {k : Nat} {w : World} {b n : Nat} {m : κ → Option ν}

theorem IsMap.keep {K : Nat → Prop} {c' : Col} {w' : World} (h : IsMap P kt kv vv c k w b m n) (hs : Step K c w c' w') (hk : ¬ K k) : IsMap P kt kv vv c' k w' b m n := by
  obtain ⟨es, clock, h1, h2⟩ := h.obj
  have hb : b < w.heap.size := (Array.getElem?_eq_some_iff.1 h1).1
  have hkb : ¬ K (c b) := by rw [h.col]; exact hk
  exact ⟨(hs.col b hb hkb).trans h.col, es, clock, (hs.block b hb hkb).trans h1, h2⟩
theorem IsMap.kn {c' : Col} {w' : World} (h : IsMap P kt kv vv c k w b m n) (hs : Step No c w c' w') : IsMap P kt kv vv c' k w' b m n := h.keep hs (fun h => h)

theorem IsMap.lookup (h : IsMap P kt kv vv c k w b m n) (L : KeyLaw P kt) (inj : ∀ y y', kv y = kv y' → y = y') (ht : P.underlying t = some (.map kt e)) {zv : Value} (hz : (zeroValue e).run P w = .ok zv w) (y : κ) (hy : ∃ l, keyOf P kt (kv y) = some l) :
    (Instr.lookup t (.map (some b)) (kv y) true).run P w = .ok (.tuple #[getV vv zv (m y), .bool (m y).isSome]) w := by
  obtain ⟨es, clock, h1, h2, hd, h3, h4, h5⟩ := h.obj
  obtain ⟨l, hl⟩ := hy
  rcases L.find w hl es.toList h3 with ⟨f1, f2⟩ | ⟨j, x, f1, f2, f3⟩
  · have hm : m y = none := by
      cases hm : m y with
      | none => rfl
      | some z => obtain ⟨x, hx, hk, _⟩ := h5 y z hm; exact absurd hk (f2 x hx)
    simp [Instr.lookup, run_underlying ht, MapKept.run_getObj_map h1, L.check w _ hl, f1, hz, Result.andThen, hm, getV]
  · obtain ⟨y', z, g1, g2, g3⟩ := h4 x (List.mem_of_getElem? f2)
    have hyy : y' = y := inj _ _ (g1.symm.trans f3)
    subst hyy
    simp [Instr.lookup, run_underlying ht, MapKept.run_getObj_map h1, L.check w _ hl, f1, Result.andThen, g3, g2, getV]

theorem key_at {es : Array MapEntry} (hd : (es.toList.map (·.key)).Nodup) {i j : Nat} {x x' : MapEntry} (hi : es[i]? = some x) (hj : es[j]? = some x') (h : x.key = x'.key) : i = j := by
  have hi' : (es.toList.map (·.key))[i]? = some x.key := by simp [hi]
  have hj' : (es.toList.map (·.key))[j]? = some x'.key := by simp [hj]
  obtain ⟨li, ei⟩ := List.getElem?_eq_some_iff.1 hi'
  obtain ⟨lj, ej⟩ := List.getElem?_eq_some_iff.1 hj'
  have hp := List.pairwise_iff_getElem.1 hd
  rcases Nat.lt_trichotomy i j with hlt | he | hlt
  · exact absurd (by rw [ei, ej, h]) (hp i j li lj hlt)
  · exact he
  · exact absurd (by rw [ei, ej, h]) (hp j i lj li hlt)

theorem step_setObj (hk : c b = k) (o : Obj) : Step (One k) c w c { w with heap := w.heap.setIfInBounds b o } :=
  ⟨rfl, rfl, rfl, by simp, fun j hj hne => by
    have : j ≠ b := fun e => hne (by rw [e]; exact hk)
    simp [Array.getElem?_setIfInBounds, this.symm], fun _ _ _ => rfl⟩

theorem ok_setMap (hok : Ok c w) (b : Nat) (es : Array MapEntry) (clock : Nat) : Ok c { w with heap := w.heap.setIfInBounds b (.map es clock) } := by
  refine ⟨fun j hj => hok.fresh j (by simpa using hj), fun j o hc => ?_⟩
  by_cases e : j = b
  · subst e
    have hlt := hok.lt hc
    simp [World.frozen?, Array.getElem?_setIfInBounds, hlt]
  · rw [World.frozen?_of_block (w := w) (a := ⟨j, o, none⟩) (by simp only [Array.getElem?_setIfInBounds]; rw [if_neg (fun h => e (Eq.symm h))])]
    exact hok.soft j o hc

theorem IsMap.update [DecidableEq κ] (h : IsMap P kt kv vv c k w b m n) (hok : Ok c w) (L : KeyLaw P kt) (inj : ∀ y y', kv y = kv y' → y = y') (ht : P.underlying t = some (.map kt e)) (hn : n < maxLen) (y : κ) (z : ν) (hy : ∃ l, keyOf P kt (kv y) = some l) :
    ∃ w', (Instr.mapUpdate t (.map (some b)) (kv y) (vv z)).run P w = .ok () w' ∧ IsMap P kt kv vv c k w' b (fun y' => if y' = y then some z else m y') (n + 1) ∧ Step (One k) c w c w' ∧ Ok c w' := by
  obtain ⟨es, clock, h1, h2, hd, h3, h4, h5⟩ := h.obj
  have hb : b < w.heap.size := (Array.getElem?_eq_some_iff.1 h1).1
  obtain ⟨l, hl⟩ := hy
  rcases L.find w hl es.toList h3 with ⟨f1, f2⟩ | ⟨j, x, f1, f2, f3⟩
  · refine ⟨{ w with heap := w.heap.setIfInBounds b (.map (es.push ⟨kv y, vv z, clock⟩) (clock + 1)) }, ?_, ⟨h.col, es.push ⟨kv y, vv z, clock⟩, clock + 1, by simp [Array.getElem?_setIfInBounds, hb], by simp; omega, ?_, ?_, ?_, ?_⟩, step_setObj h.col _, ok_setMap hok _ _ _⟩
    · simp [Instr.mapUpdate, run_underlying ht, MapKept.run_getObj_map h1, L.check w false hl, f1, MapKept.run_setObj_map _ h1, Result.andThen]
    · rw [Array.toList_push, List.map_append, List.nodup_append]
      refine ⟨hd, by simp, fun a ha b hb => ?_⟩
      simp at hb; subst hb
      obtain ⟨x, hx, rfl⟩ := List.mem_map.1 ha
      exact f2 x hx
    · intro x hx
      simp only [Array.toList_push, List.mem_append, List.mem_singleton] at hx
      rcases hx with hx | rfl
      · exact h3 x hx
      · exact ⟨l, hl⟩
    · intro x hx
      simp only [Array.toList_push, List.mem_append, List.mem_singleton] at hx
      rcases hx with hx | rfl
      · obtain ⟨y', z', g1, g2, g3⟩ := h4 x hx
        refine ⟨y', z', g1, g2, ?_⟩
        rw [if_neg (fun e => f2 x hx (by rw [g1, e])), g3]
      · exact ⟨y, z, rfl, rfl, by simp⟩
    · intro y' z' hm
      by_cases e : y' = y
      · subst e
        simp at hm; subst hm
        exact ⟨⟨kv y', vv z, clock⟩, by simp, rfl, rfl⟩
      · simp only [e, if_false] at hm
        obtain ⟨x, hx, g1, g2⟩ := h5 y' z' hm
        exact ⟨x, by simp [hx], g1, g2⟩
  · have hj : es[j]? = some x := by simpa using f2
    refine ⟨{ w with heap := w.heap.setIfInBounds b (.map (es.modify j fun e' => { e' with key := kv y, val := vv z }) clock) }, ?_, ⟨h.col, es.modify j (fun e' => { e' with key := kv y, val := vv z }), clock, by simp [Array.getElem?_setIfInBounds, hb], by simp; omega, ?_, ?_, ?_, ?_⟩, step_setObj h.col _, ok_setMap hok _ _ _⟩
    · simp [Instr.mapUpdate, run_underlying ht, MapKept.run_getObj_map h1, L.check w false hl, f1, hj, f3, L.stays w hl, MapKept.run_setObj_map _ h1, Result.andThen]
    · have hkeys : (es.modify j (fun e' => { e' with key := kv y, val := vv z })).toList.map (·.key) = es.toList.map (·.key) := by
        refine List.ext_getElem? fun i => ?_
        simp only [List.getElem?_map, Array.getElem?_toList, Array.getElem?_modify]
        split
        · rename_i hij
          subst hij
          rw [hj]; simp [f3]
        · rfl
      rw [hkeys]; exact hd
    · intro x' hx
      rcases MapFrom.mem_modify hx with hx | ⟨e', _, rfl⟩
      · exact h3 x' hx
      · exact ⟨l, hl⟩
    · intro x' hx
      rw [Array.mem_toList_iff, Array.mem_iff_getElem?] at hx
      obtain ⟨i, hi⟩ := hx
      rw [Array.getElem?_modify] at hi
      by_cases hij : j = i
      · subst hij
        rw [if_pos rfl, hj] at hi
        simp at hi; subst hi
        exact ⟨y, z, rfl, rfl, by simp⟩
      · rw [if_neg hij] at hi
        have hx' : x' ∈ es.toList := by rw [Array.mem_toList_iff, Array.mem_iff_getElem?]; exact ⟨i, hi⟩
        obtain ⟨y', z', g1, g2, g3⟩ := h4 x' hx'
        refine ⟨y', z', g1, g2, ?_⟩
        rw [if_neg (fun e => hij (key_at hd hj hi (by rw [f3, g1, e]))), g3]
    · intro y' z' hm
      by_cases e : y' = y
      · subst e
        simp at hm; subst hm
        refine ⟨⟨kv y', vv z, x.born⟩, ?_, rfl, rfl⟩
        rw [Array.mem_toList_iff, Array.mem_iff_getElem?]
        exact ⟨j, by rw [Array.getElem?_modify, if_pos rfl, hj]; rfl⟩
      · simp only [e, if_false] at hm
        obtain ⟨x', hx, g1, g2⟩ := h5 y' z' hm
        refine ⟨x', ?_, g1, g2⟩
        rw [Array.mem_toList_iff, Array.mem_iff_getElem?] at hx ⊢
        obtain ⟨i, hi⟩ := hx
        refine ⟨i, ?_⟩
        rw [Array.getElem?_modify, if_neg, hi]
        intro hij
        subst hij
        rw [hj] at hi; cases hi
        exact e (inj _ _ (g1.symm.trans f3))

/-- A new map. -/
theorem IsMap.new (hok : Ok c w) (k : Nat) : IsMap P kt kv vv (c.put w.heap.size k) k (w.alloc (.map #[] 0)) w.heap.size (fun _ => none) 0 ∧ Ok (c.put w.heap.size k) (w.alloc (.map #[] 0)) ∧ Step No c w (c.put w.heap.size k) (w.alloc (.map #[] 0)) := by
  have hnew : (w.alloc (.map #[] 0)).heap[w.heap.size]? = some (.map #[] 0) := World.alloc_heap_new w _
  exact ⟨⟨by simp, #[], 0, hnew, Nat.le_refl _, by simp, by simp, by simp, by simp⟩, (hok.alloc _).put (by simp) (fun o => by unfold World.frozen?; rw [hnew]), (Step.refl.alloc _).put (.inl (Nat.le_refl _))⟩
end
end Go.Proofs.YtgcobbapaaihiaaGreat

set_option linter.unusedVariables false
set_option linter.unusedSimpArgs false
namespace Go.Proofs.YtgcobbapaaihiaaGreat
open Go.RowKit Go.WideMaps

def seatV (p : Int × Int) : Value := .agg #[.int .i64 p.1, .int .i64 p.2]
def nixV (_ : Unit) : Value := .agg #[]
theorem seatV_inj : ∀ p q : Int × Int, seatV p = seatV q → p = q := by
  rintro ⟨a, b⟩ ⟨c, d⟩ h
  simp [seatV] at h
  exact Prod.ext h.1 h.2
theorem seatLaw : KeyLaw Tryz.prog 148 := deep_law_gate (by kernel_rfl) (of_decide_eq_true (by kernel_rfl)) (of_decide_eq_true (by kernel_rfl)) (by kernel_rfl) (by kernel_rfl)
theorem seat_key {p : Int × Int} (h1 : IntKind.i64.has p.1) (h2 : IntKind.i64.has p.2) : ∃ l, keyOf Tryz.prog 148 (seatV p) = some l := by
  have w1 : (Lit.int .i64 p.1).wf = true := by simpa [Lit.wf, IntKind.has] using h1
  have w2 : (Lit.int .i64 p.2).wf = true := by simpa [Lit.wf, IntKind.has] using h2
  have c1 : Tryz.prog.cellsOf 3 = 1 := by kernel_rfl
  have c2 : Tryz.prog.cellsOf 148 = 2 := by kernel_rfl
  obtain ⟨m, hm⟩ : ∃ m, Tryz.prog.types.size = m + 1 := ⟨Tryz.prog.types.size - 1, by have : 1 ≤ Tryz.prog.types.size := of_decide_eq_true (by kernel_rfl); omega⟩
  unfold keyOf
  rw [Tryz.underlying148]
  have f1 : (Tryz.prog.keyType 148 && (seatV p).formed Tryz.prog 148) = true := by
    rw [Bool.and_eq_true]; exact ⟨by kernel_rfl, by simp [Value.formed, seatV, Tryz.underlying148, c2]⟩
  simp only [f1, if_true, hm]
  refine ⟨.string (keyBytes [.int .i64 p.1, .int .i64 p.2]), ?_⟩
  have e : Tryz.prog.keyLits (m + 1 + 1) 148 (seatV p).cells.toList = some [.int .i64 p.1, .int .i64 p.2] := by
    simp [Program.keyLits, Tryz.underlying148, Tryz.underlying3, seatV, Value.cells, c1, c2, List.range_succ, w1, w2]
  rw [e]; rfl

/-- Nobody is away. -/
abbrev Away (c : Col) (k : Nat) (w : World) (b : Nat) : Prop := IsMap Tryz.prog 148 seatV nixV c k w b (fun _ => none) 0
theorem Away.look {c : Col} {k : Nat} {w : World} {b : Nat} (h : Away c k w b) {x y : Int} (hx : IntKind.i64.has x) (hy : IntKind.i64.has y) :
    (Instr.lookup 144 (.map (some b)) (.agg #[.int .i64 x, .int .i64 y]) true).run Tryz.prog w = .ok (.tuple #[.agg #[], .bool false]) w := by
  have hz : (zeroValue 150).run Tryz.prog w = .ok (.agg #[]) w := by simp [go_sem]
  exact IsMap.lookup h (t := 144) seatLaw seatV_inj Tryz.underlying144 hz (x, y) (seat_key hx hy)
theorem Away.new {c : Col} {w : World} (hok : Ok c w) : Away c 0 (w.alloc (.map #[] 0)) w.heap.size :=
  ⟨hok.fresh _ (Nat.le_refl _), #[], 0, heap_alloc_new w _, by simp, by simp, by simp, by simp, by simp⟩

/-- Rows of raw cells. -/
def TSig : Ty (List Value) where
  n := 37
  rd := fun _ _ _ vs x => vs = x ∧ x.length = 37 ∧ ∀ u ∈ x, u.oneCell' = true
  len := by rintro _ _ _ _ _ ⟨rfl, h, _⟩; exact h
  one := by rintro _ _ _ _ _ ⟨rfl, _, h⟩ u hu; exact h u hu
  keep := by rintro _ _ _ _ _ _ _ _ _ _ h; exact h
  turn := by rintro _ _ _ _ _ _ h; exact h
end Go.Proofs.YtgcobbapaaihiaaGreat

set_option linter.unusedVariables false
set_option linter.unusedSimpArgs false
namespace Go.Proofs.YtgcobbapaaihiaaGreat
open Go.RowKit

theorem fill_one {L B : List Value} {n : Nat} (hL : L.length = n) (hB : B.length = n) : Instr.fill (fun i => some (i * n, n)) L.toArray [(0, .agg B.toArray)] = some B.toArray := by
  subst hB
  have e := fill_at (place := fun i => some (i * B.length, B.length)) (L := L) (B := B) (i := 0) (off := 0) (v := .agg B.toArray) (rest := []) (by simp) rfl (by omega)
  rw [e, Instr.fill, List.take_zero, List.nil_append, List.drop_eq_nil_of_le (by omega), List.append_nil]

section
variable {P : Program}
theorem run_bs1 {w : World} {t e : TypeId} {B : List Value} {n : Nat} (hu : P.underlying t = some (.slice e)) (hs : (P.info? e).map (·.size) = some n) (hz : ((P.info? e).bind (·.zero)).isSome = true) (hB : B.length = n) (hp : 0 < n) (hsm : n ≤ 1000) :
    (Instr.buildSlice t 1 #[(0, .agg B.toArray)]).run P w = .ok (.slice (some ⟨w.heap.size, 0, none⟩) 1 1) (w.alloc (.cells B.toArray e)) := by
  cases hie : P.info? e with
  | none => simp [hie] at hs
  | some ie =>
    simp only [hie, Option.map_some, Option.some.injEq, Option.bind_some] at hs hz
    obtain ⟨z, hzz⟩ := Option.isSome_iff_exists.1 hz
    refine run_buildSlice w t e 1 _ B.toArray ie z hu hie hzz (by rw [hs]; omega) (by rw [hs]; omega) ?_
    rw [hs]
    have := fill_one (L := ((List.range (1 * n)).map (z.cells[· % z.cells.size]!))) (B := B) (n := n) (by simp) hB
    rw [← this]
    congr 1
    apply Array.ext'
    rw [Array.toList_map, Array.toList_range]
theorem step_bs1 {ops : Array Oper} {o : Oper} {a : Act} {w : World} {K : Act → World → Prop} {Q : Exit → Act → World → Prop} {E : Prop} (hgd : o.guard = none) {dd : Option Tmp} (hdd : o.dst = dd) (t e : TypeId) (x : Operand) (ho : o.op = .buildSlice t 1 #[(0, x)])
    (hu : P.underlying t = some (.slice e)) {B : List Value} {n : Nat} (hs : (P.info? e).map (·.size) = some n) (hz : ((P.info? e).bind (·.zero)).isSome = true) (hB : B.length = n) (hp : 0 < n) (hsm : n ≤ 1000) (hx : a.eval x = .agg B.toArray)
    (h : K (a.put dd (.slice (some ⟨w.heap.size, 0, none⟩) 1 1)) (w.alloc (.cells B.toArray e))) : if Region.wanted o (yielded ops a.tmps) = true then Oper.wp P o a w K Q else E := by
  subst hdd
  rw [if_pos (by simp [Region.wanted, hgd])]
  have r := run_bs1 (w := w) hu hs hz hB hp hsm
  unfold Oper.wp execOp
  have e : (#[((0 : Nat), x)].map fun (i, x) => (i, a.eval x)) = #[(0, .agg B.toArray)] := by simp [hx]
  simp only [ho, e, Sem.run_bind, r, Result.andThen_ok]
  exact h
theorem wpList_bs1 {ops : Array Oper} {rest : List Oper} {o : Oper} {a : Act} {w : World} {Q : Exit → Act → World → Prop} (hgd : o.guard = none) (dd : Option Tmp) (hdd : o.dst = dd) (t e : TypeId) (x : Operand) (ho : o.op = .buildSlice t 1 #[(0, x)])
    (hu : P.underlying t = some (.slice e)) {B : List Value} {n : Nat} (hs : (P.info? e).map (·.size) = some n) (hz : ((P.info? e).bind (·.zero)).isSome = true) (hB : B.length = n) (hp : 0 < n) (hsm : n ≤ 1000) (hx : a.eval x = .agg B.toArray)
    (h : wpList P ops Q rest (a.put dd (.slice (some ⟨w.heap.size, 0, none⟩) 1 1)) (w.alloc (.cells B.toArray e))) : wpList P ops Q (o :: rest) a w := by
  refine wpList_plain hgd fun K hK => ?_
  have := step_bs1 (ops := ops) (Q := Q) (K := K) (E := False) hgd hdd t e x ho hu hs hz hB hp hsm hx (hK _ _ h)
  rw [if_pos (by simp [Region.wanted, hgd])] at this
  exact this
end
end Go.Proofs.YtgcobbapaaihiaaGreat
