/- ServerTurns, part 22: lemmas, each with its own conditions. -/
import Derived.Test.YtgcobbapaaihiaaGreatSt02
import Derived.Test.YtgcobbapaaihiaaGreatSt03
import Derived.Test.YtgcobbapaaihiaaGreatSt05
import Derived.Test.YtgcobbapaaihiaaGreatSt06
import Derived.Test.YtgcobbapaaihiaaGreatSt07
import Derived.Test.YtgcobbapaaihiaaGreatSt08
import Derived.Test.YtgcobbapaaihiaaGreatSt09
import Derived.Test.YtgcobbapaaihiaaGreatSt21
import Derived.Deep.CutRange
import Derived.Lib.AppendZerosOnto
import Derived.Laws.Bits64b
set_option linter.unusedVariables false
set_option linter.unusedSimpArgs false
namespace Go.Proofs.YtgcobbapaaihiaaGreat
open Go.RowKit

theorem info_state : (Tryz.prog.info? 277).map (·.size) = some 10 := by kernel_rfl

section
variable {c : Col} {w : World}

theorem none_any {p : Nat} {pc : Addr} (h : w.cell? ⟨p, 0, none⟩ = some (.pointer (some pc))) :
    Calls Tryz.prog 203 #[.pointer (some ⟨p, 0, none⟩)] w fun r w' => r = .returned (.bool false) ∧ w' = w := by
  go_enter Tryz.func203, Tryz.ntmps203
  go_wp2_with fail
  go_ret
  exact ⟨rfl, rfl⟩

set_option maxRecDepth 100000 in
set_option maxHeartbeats 1600000 in
theorem new_any (hok : Ok c w) (k kc : Nat) :
    Calls Tryz.prog 191 #[] w fun r w' => ∃ p pc, r = .returned (.pointer (some ⟨p, 0, none⟩)) ∧ ∃ c', At c' w' pc kc [.int .i64 0] ∧ WdsM c' w' p k [.pointer (some ⟨pc, 0, none⟩)] [.slice none 0 0] 8 ∧ Step No c w c' w' ∧ Ok c' w' := by
  have B := begin_any hok
  obtain ⟨q, hq, hqc⟩ := hok.spare 0
  go_enter Tryz.func191, Tryz.ntmps191
  go_wp2_with fail
  with_reducible refine B.mono ?_
  rintro e w1 ⟨rfl, c1, s1, o1⟩
  clear B
  have hq0 : q ≠ 0 := by omega
  have hB1 := u32C_one beginL
  have hBl : (u32C beginL).length = 8 := rfl
  obtain ⟨q2, hq2, hq2c⟩ := o1.spare 0
  have hq20 : q2 ≠ 0 := by omega
  obtain ⟨a4, o4, s4⟩ := newAt o1 (u32C (List.replicate 8 0)) 271 q2
  rw [show (u32C (List.replicate 8 0)).toArray = #[.int .u32 0, .int .u32 0, .int .u32 0, .int .u32 0, .int .u32 0, .int .u32 0, .int .u32 0, .int .u32 0] from rfl] at a4 o4 s4
  obtain ⟨W4, hW4⟩ : ∃ W4, w1.alloc (.cells #[.int .u32 0, .int .u32 0, .int .u32 0, .int .u32 0, .int .u32 0, .int .u32 0, .int .u32 0, .int .u32 0] 271) = W4 := ⟨_, rfl⟩
  rw [hW4] at a4 o4 s4
  obtain ⟨c4, hc4⟩ : ∃ c4, c1.put w1.heap.size q2 = c4 := ⟨_, rfl⟩
  rw [hc4] at a4 o4 s4
  obtain ⟨sb, hsb⟩ : ∃ sb, w1.heap.size = sb := ⟨_, rfl⟩
  rw [hsb] at a4
  have hi1 : (Tryz.prog.info? 271).map (·.size) = some (u32C beginL).length := by rw [info_words, hBl]
  have hi2 : (Tryz.prog.info? 271).map (·.size) = some (u32C beginL).toArray.size := by rw [info_words]; rfl
  obtain ⟨S0, a5⟩ := a4.st o4 hq20 (ty := 271) (us := u32C beginL) rfl hi1 hB1
  have ht0 := a4.there (o := 0) (n := (u32C beginL).toArray.size) o4 hq20 (by decide)
  have hB2 := all_oneCell_toArray hB1
  have hsb2 : w1.heap.size ≤ sb := by omega
  have s5 : Step No c1 w1 c4 (W4.setCells sb 0 (u32C beginL)) := Step.setCells (.inl hsb2) _ _ _ s4
  have o5 := Ok.setCells (b := sb) (u32C beginL) 0 _ o4
  have st5 : Wds c4 (W4.setCells sb 0 (u32C beginL)) sb q2 8 := ⟨beginL, rfl, by decide, a5⟩
  obtain ⟨B, hB⟩ : ∃ B, u32C beginL = B := ⟨_, rfl⟩
  rw [hB] at ht0 hi2 hB2 s5 o5 st5 ⊢
  have SH := Lib.hid (And.intro ht0 (And.intro hi2 hB2))
  obtain ⟨W5, hW5⟩ : ∃ W5, W4.setCells sb 0 B = W5 := ⟨_, rfl⟩
  rw [hW5] at s5 o5 st5
  obtain ⟨z0, hz0, y0⟩ := st5.cell (i := 0) (by omega)
  have yf := o5.soft sb 0 (by rw [st5.col]; exact hq20)
  obtain ⟨z1, hz1, e1'⟩ := xor32 z0 16842784 hz0 (by omega)
  have e1 : bits .xor .u32 (z0 : Int) 16842784 = (z1 : Int) := e1'
  clear e1'
  have st6 := st5.set (i := 0) (by omega) z1 hz1
  have s6 : Step No c1 w1 c4 (W5.setCell ⟨sb, 0, none⟩ (.int .u32 z1)) := s5.setCell (a := ⟨sb, 0, none⟩) (.inl hsb2) _
  have o6 := o5.setCell ⟨sb, 0, none⟩ (.int .u32 z1)
  obtain ⟨l6, hl6, hx6, a6⟩ := st6.at_
  obtain ⟨ac, oc, sc⟩ := newAt o6 [.int .i64 0] 275 kc
  rw [show ([.int .i64 0] : List Value).toArray = #[.int .i64 0] from rfl, show (W5.setCell ⟨sb, 0, none⟩ (.int .u32 z1)).heap.size = W5.heap.size from size_setCell _ _ _] at ac oc sc
  have a7 := (a6.keep sc (fun h => h))
  have hB6l : (u32C l6).length = 8 := by rw [u32C_len, hl6]
  have hi6 : (Tryz.prog.info? 271).map (·.size) = some (u32C l6).length := by rw [info_words, hB6l]
  obtain ⟨w0, w1', w2', w3', w4', w5', w6', w7', rfl⟩ : ∃ w0 w1 w2 w3 w4 w5 w6 w7, l6 = [w0, w1, w2, w3, w4, w5, w6, w7] := by
    match l6, hl6 with
    | [a, b, c, d, e, f, g, h], _ => exact ⟨a, b, c, d, e, f, g, h, rfl⟩
  rw [show u32C [w0, w1', w2', w3', w4', w5', w6', w7'] = [.int .u32 w0, .int .u32 w1', .int .u32 w2', .int .u32 w3', .int .u32 w4', .int .u32 w5', .int .u32 w6', .int .u32 w7'] from rfl] at a7 hi6
  have SL := Lib.hid (And.intro a7.cells hi6)
  have X6 := Lib.hid (And.intro hB6l (And.intro hx6 (And.intro ac (And.intro (s6.trans sc) oc))))
  clear a4 o4 s4 hB1 hBl hi1 hi2 S0 a5 ht0 hB2 s5 o5 st5 st6 s6 o6 a6 a7 ac oc sc hi6 hx6 hB6l hl6
  go_upto_region 3 with (refine wpList_store_mid rfl 271 _ _ rfl sb 0 B.toArray rfl rfl SH.out.1 SH.out.2.1 SH.out.2.2 ?_; rw [hW5])
  clear hW4 hW5 hc4 hsb y0 yf SH
  go_wp2_with (refine wpList_load_mid rfl 271 _ rfl sb 0 rfl _ _ SL.out.1 Tryz.underlying271 rfl SL.out.2 ?_)
  go_ret
  obtain ⟨_, hx6, ac, sc, oc⟩ := X6.out
  obtain ⟨ap, op, sp⟩ := newAt oc [.pointer (some ⟨W5.heap.size, 0, none⟩), .int .u32 w0, .int .u32 w1', .int .u32 w2', .int .u32 w3', .int .u32 w4', .int .u32 w5', .int .u32 w6', .int .u32 w7', .slice none 0 0] 277 k
  rw [World.size_alloc, size_setCell] at ap op sp
  exact ⟨_, _, rfl, _, ac.keep sp (fun h => h), ⟨[w0, w1', w2', w3', w4', w5', w6', w7'], rfl, hx6, ap⟩, (s1.trans sc).trans sp, op⟩
end
end Go.Proofs.YtgcobbapaaihiaaGreat

set_option linter.unusedVariables false
set_option linter.unusedSimpArgs false
namespace Go.Proofs.YtgcobbapaaihiaaGreat
open Go.RowKit

theorem run_append_room_zeros {P : Program} (w : World) (t tn ty e : TypeId) (i : TypeInfo) (z : Value) (kn : IntKind) (ht : P.underlying t = some (.slice e)) (htn : P.underlying tn = some (.int kn)) (hi : P.info? e = some i) (hz : i.zero = some z) (hs : i.size = 1) (hzs : z.cells.size = 1)
    (g sLen sCap : Nat) (cur : Array Value) (hg : w.heap[g]? = some (.cells cur e (0, 0))) (k : Nat) (h0 : 0 < k) (hroom : sLen + k ≤ sCap) (hfit : sLen + k ≤ cur.size) (h1 : ∀ u ∈ (Builtin.zeroCells z.cells k).toList, u.oneCell' = true)
    (h63 : (k : Int) ≤ 9223372036854775807) (h48 : k * i.bytes ≤ 281474976710656) :
    (Builtin.append_ #[t, tn] ty #[.slice (some ⟨g, 0, none⟩) sLen sCap, .int .i64 k]).run P w =
      .ok (.slice (some ⟨g, 0, none⟩) (sLen + k) sCap) (w.setRow g (cur.toList.take sLen ++ (Builtin.zeroCells z.cells k).toList ++ cur.toList.drop (sLen + k)).toArray) := by
  have hk : k ≠ 0 := by omega
  have hw : IntKind.i64.wrap (k : Int) = k := by rw [IntKind.wrap_i64]; omega
  have h48i : ¬ (281474976710656 < (k : Int) * (i.bytes : Int)) := by
    rw [← Int.natCast_mul]
    omega
  have hneg : ¬ ((k : Int) < 0) := by omega
  have hzl : (Builtin.zeroCells z.cells k).toList.length = k := by rw [Array.length_toList, size_zeroCells, hzs, Nat.mul_one]
  have hst := run_storeCells_at P g sLen e (Builtin.zeroCells z.cells k).toList 0 cur w hg (by rw [hzl]; omega) h1
  rw [Nat.add_zero, hzl] at hst
  simp [Builtin.append_, run_underlying ht, run_underlying htn, sizeOf, typeInfo, zeroValue, hi, hz, hs, asInt, asIntOf, hw, hk, hneg, h48i, hroom, Addr.add_lit, hst]

theorem flat_bC : ∀ l : List UInt8, (l.map fun x => [Value.int .u8 x.toNat]).flatten = bC l
  | [] => rfl
  | x :: l => by rw [List.map_cons, List.flatten_cons, flat_bC l]; rfl

theorem Own.toRow {e : TypeId} {c : Col} {k k2 : Nat} {w : World} {v : Value} {l : List UInt8} (h : Own TByte e c k k2 w v l) : w.ownsRow 0 e 1 v l.length (bC l) ∧ ∀ b, v.ownBlock = some b → c b = k := by
  obtain ⟨xss, hx, hrd, hlen, hown, hcol⟩ := h
  have : xss = l.map fun x => [Value.int .u8 x.toNat] := by
    apply List.ext_getElem?
    intro i
    rcases Nat.lt_or_ge i l.length with hi | hi
    · obtain ⟨vs, h1, h2⟩ := hrd i l[i] (List.getElem?_eq_getElem hi)
      rw [h1, List.getElem?_map, List.getElem?_eq_getElem hi]
      simp only [Option.map_some]
      rw [show vs = [Value.int .u8 l[i].toNat] from h2]
    · rw [List.getElem?_eq_none (by omega), List.getElem?_eq_none (by simpa using hi)]
  subst this
  have e2 := flat_bC l
  rw [e2] at hown
  exact ⟨hown, hcol⟩

theorem Own.ofRow {e : TypeId} {c : Col} {k : Nat} (k2 : Nat) {w : World} {v : Value} {l : List UInt8} (h : w.ownsRow 0 e 1 v l.length (bC l)) (hc : ∀ b, v.ownBlock = some b → c b = k) : Own TByte e c k k2 w v l := by
  have e2 := flat_bC l
  refine ⟨l.map fun x => [Value.int .u8 x.toNat], by simp, fun i x hx => ⟨[.int .u8 x.toNat], by simp [hx], rfl⟩, fun vs hvs => ?_, by rw [e2]; exact h, hc⟩
  simp only [List.mem_map] at hvs
  obtain ⟨x, _, rfl⟩ := hvs
  rfl

section
variable {c : Col} {w : World}

theorem zeroCells_bC (n : Nat) : (Builtin.zeroCells #[Value.int .u8 0] n).toList = bC (List.replicate n 0) := by
  apply List.ext_getElem?
  intro i
  simp only [Builtin.zeroCells, bC, Array.toList_map, Array.toList_range, List.getElem?_map]
  rcases Nat.lt_or_ge i n with h | h
  · rw [List.getElem?_eq_getElem (by simpa using h), List.getElem?_eq_getElem (by simpa using h)]
    simp
    simp [Nat.mod_one]
  · rw [List.getElem?_eq_none (by simpa using h), List.getElem?_eq_none (by simpa using h)]
    rfl

/-- append(v, make([]byte, n)...), v the owner's. -/
theorem run_appz (hok : Ok c w) {k : Nat} {v : Value} {l : List UInt8} (hv : Own TByte 5 c k 0 w v l) (hk0 : k ≠ 0) (n : Nat) (h0 : 0 < n) (hn : l.length + n ≤ 1000000000) (ty : TypeId) :
    ∃ v' w' c', (Builtin.append_ #[26, 3] ty #[v, .int .i64 n]).run Tryz.prog w = .ok v' w' ∧ Own TByte 5 c' k 0 w' v' (l ++ List.replicate n 0) ∧ Step (One k) c w c' w' ∧ Ok c' w' := by
  obtain ⟨i, hi, hz, hs1, hb1⟩ := info_parts infoU8
  obtain ⟨hown, hcol⟩ := hv.toRow
  have hlen : (bC (l ++ List.replicate n 0)).length = (l.length + n) * 1 := by rw [bC_len]; simp
  have hl2 : (l ++ List.replicate n (0 : UInt8)).length = l.length + n := by simp
  -- a new row
  have new : ∀ old : Nat, ∃ c', Own TByte 5 c' k 0 (w.drew.alloc (.cells ((bC l).toArray ++ Builtin.zeroCells #[Value.int .u8 0] n ++ Builtin.zeroCells #[Value.int .u8 0] (grownCap w (l.length + n) old 5 - (l.length + n))) 5)) (.slice (some ⟨w.heap.size, 0, none⟩) (l.length + n) (grownCap w (l.length + n) old 5)) (l ++ List.replicate n 0) ∧
      Step (One k) c w c' (w.drew.alloc (.cells ((bC l).toArray ++ Builtin.zeroCells #[Value.int .u8 0] n ++ Builtin.zeroCells #[Value.int .u8 0] (grownCap w (l.length + n) old 5 - (l.length + n))) 5)) ∧
      Ok c' (w.drew.alloc (.cells ((bC l).toArray ++ Builtin.zeroCells #[Value.int .u8 0] n ++ Builtin.zeroCells #[Value.int .u8 0] (grownCap w (l.length + n) old 5 - (l.length + n))) 5)) := by
    intro old
    have hge := grownCap_ge w (l.length + n) old 5
    have hcm := grownCap_le_maxLen w (l.length + n) old 5 (by simp only [maxLen]; omega)
    obtain ⟨cp, hcp⟩ : ∃ cp, grownCap w (l.length + n) old 5 = cp := ⟨_, rfl⟩
    rw [hcp] at hge hcm ⊢
    obtain ⟨cur, hcur⟩ : ∃ cur, (bC l).toArray ++ Builtin.zeroCells #[Value.int .u8 0] n ++ Builtin.zeroCells #[Value.int .u8 0] (cp - (l.length + n)) = cur := ⟨_, rfl⟩
    have hsz : cur.size = cp * 1 := by
      rw [← hcur]
      simp only [Array.size_append, List.size_toArray, bC_len, size_zeroCells]
      simp; omega
    have htk : cur.toList.take ((l.length + n) * 1) = bC (l ++ List.replicate n 0) := by
      rw [← hcur, Array.toList_append, Array.toList_append, zeroCells_bC, ← bC_app, ← hlen]
      exact List.take_left
    rw [hcur]
    have hnew : (w.drew.alloc (.cells cur 5)).heap[w.heap.size]? = some (.cells cur 5 (0, 0)) := heap_alloc_new w.drew _
    refine ⟨c.put w.heap.size k, Own.ofRow 0 ?_ (fun b hb => ?_), ?_, ?_⟩
    · rw [hl2]
      exact ⟨hlen, .inr ⟨w.heap.size, cp, cur, rfl, Nat.zero_le _, hnew, hge, hcm, hsz, htk⟩⟩
    · simp only [Value.ownBlock, Option.some.injEq] at hb
      subst hb; simp
    · exact ((Step.refl (K := One k)).drew.alloc _).put (.inl (Nat.le_refl _))
    · refine (hok.drew.alloc _).put (by simp) (fun o => ?_)
      unfold World.frozen?; rw [hnew]; simp
  rcases hown.2 with ⟨rfl, hl0⟩ | ⟨g, cap, cur, rfl, _, hg, hnc, hcm, hcs, htake⟩
  · have hl : l = [] := List.eq_nil_of_length_eq_zero hl0
    subst hl
    have hr := Go.Lib.run_append_nil_zeros (P := Tryz.prog) w 26 3 ty 5 i (.int .u8 0) .i64 .i64 Tryz.underlying26 Tryz.underlying3 hi hz n h0 (by omega) (by omega) (by rw [hb1]; simp at hn; omega)
    obtain ⟨c', a1, a2, a3⟩ := new 0
    simp only [List.length_nil, Nat.zero_add, List.nil_append] at a1 a2 a3 ⊢
    rw [show (bC []).toArray = (#[] : Array Value) from rfl, Array.empty_append] at a1 a2 a3
    exact ⟨_, _, c', hr, a1, a2, a3⟩
  · have hcs' : cur.size = cap := by simpa using hcs
    by_cases hroom : l.length + n ≤ cap
    · have hr := run_append_room_zeros (P := Tryz.prog) w 26 3 ty 5 i (.int .u8 0) .i64 Tryz.underlying26 Tryz.underlying3 hi hz hs1 rfl g l.length cap cur hg n h0 hroom (by omega)
        (by rw [show (Value.int IntKind.u8 0).cells = #[.int .u8 0] from rfl, zeroCells_bC]; intro u hu; simp [bC] at hu; obtain ⟨_, rfl⟩ := hu; rfl) (by omega) (by rw [hb1]; omega)
      refine ⟨_, _, c, hr, Own.ofRow 0 ?_ (fun b hb => hcol b hb), ⟨rfl, rfl, rfl, by simp [World.setRow], fun b hb hk => setRow_other w g b _ (fun e => hk (by rw [e]; exact hcol g rfl)), fun _ _ _ => rfl⟩, ⟨fun b hb => hok.fresh b (by simpa [World.setRow] using hb), fun b o hc => ?_⟩⟩
      · rw [hl2]
        refine ⟨hlen, .inr ⟨g, cap, _, rfl, Nat.zero_le _, setRow_heap w g cur _ 5 _ hg, hroom, hcm, ?_, ?_⟩⟩
        · simp only [List.size_toArray, List.length_append, List.length_take, List.length_drop, Array.length_toList, size_zeroCells]
          rw [show (Value.int IntKind.u8 0).cells.size = 1 from rfl]; omega
        · rw [show (Value.int IntKind.u8 0).cells = #[.int .u8 0] from rfl, zeroCells_bC, show cur.toList.take l.length = bC l by simpa using htake, ← bC_app, ← hlen]
          exact List.take_left
      · by_cases e : b = g
        · subst e
          unfold World.frozen?
          rw [setRow_heap w b cur _ 5 _ hg]; simp
        · have := hok.soft b o hc
          unfold World.frozen? at this ⊢
          rw [setRow_other w g b _ e]; exact this
    · have holds : ∀ j u, (bC l)[j]? = some u → w.cell? ((⟨g, 0, none⟩ : Addr).add j) = some u := hown.cells (g := g) rfl
      have hf : (Builtin.firstCells i.size l.length (.slice (some ⟨g, 0, none⟩) l.length cap)).run Tryz.prog w.drew = .ok (bC l).toArray w.drew :=
        run_firstCells_some (P := Tryz.prog) w.drew i.size l.length ⟨g, 0, none⟩ l.length cap (bC l) (by rw [bC_len, hs1, Nat.mul_one]) holds
      have hr := Go.Lib.run_append_grow_zeros (P := Tryz.prog) w 26 3 ty 5 i (.int .u8 0) .i64 .i64 Tryz.underlying26 Tryz.underlying3 hi hz (some ⟨g, 0, none⟩) l.length cap (bC l) hf n h0 (by omega) (by omega) (by omega) (by rw [hb1]; omega)
        (growslice_fits (by omega) (by rw [hb1]; omega))
      obtain ⟨c', a1, a2, a3⟩ := new cap
      exact ⟨_, _, c', hr, a1, a2, a3⟩
end
end Go.Proofs.YtgcobbapaaihiaaGreat

set_option linter.unusedVariables false
set_option linter.unusedSimpArgs false
namespace Go.Proofs.YtgcobbapaaihiaaGreat
open Go.RowKit

section
variable {c : Col} {w : World}

theorem take_any (n m : Int) {b k : Nat} (h : At c w b k [.int .i64 n]) (hok : Ok c w) (hk : k ≠ 0) (h0 : 0 ≤ n) (h1 : n ≤ 1000000000) (h2 : 0 ≤ m) (h3 : m ≤ 1000000000) :
    Calls Tryz.prog 204 #[.pointer (some ⟨b, 0, none⟩), .int .i64 m] w fun r w' => r = .returned (.tuple #[]) ∧ At c w' b k [.int .i64 (n + m)] ∧ Step (One k) c w c w' ∧ Ok c w' := by
  have y0 := h.c0
  have yf := h.fz hok hk 0
  have hw : IntKind.i64.wrap (n + m) = n + m := IntWalk.i64_in _ (by omega)
  have H := Lib.hid (And.intro h hok)
  clear h hok
  go_enter Tryz.func204, Tryz.ntmps204
  go_wp2
  first | go_end0 | refine bodyPost_ret (results_none rfl _ _ _) rfl ?_
  exact ⟨rfl, H.out.1.set0, (Step.refl (K := One k)).setCell (a := ⟨b, 0, none⟩) (.inr H.out.1.col) _, H.out.2.setCell _ _⟩

theorem clen_any (n : Int) {b k : Nat} (h : At c w b k [.int .i64 n]) :
    Calls Tryz.prog 212 #[.pointer (some ⟨b, 0, none⟩)] w fun r w' => r = .returned (.int .i64 n) ∧ w' = w := by
  have y0 := h.c0
  clear h
  go_enter Tryz.func212, Tryz.ntmps212
  go_wp2
  go_ret
  exact ⟨rfl, rfl⟩
end
end Go.Proofs.YtgcobbapaaihiaaGreat

set_option linter.unusedVariables false
set_option linter.unusedSimpArgs false
namespace Go.Proofs.YtgcobbapaaihiaaGreat
open Go.RowKit

section
variable {P : Program}
/-- append whose run is known, as a step of a region that draws its order. -/
theorem step_append_run {ops : Array Oper} {o : Oper} {a : Act} {w : World} {K : Act → World → Prop} {Q : Exit → Act → World → Prop} {E : Prop} (hgd : o.guard = none) {dd : Option Tmp} (hdd : o.dst = dd) (s x : Operand) (t tn : TypeId)
    (ho : o.op = .call { callee := .builtin .append, args := #[s, x], argTypes := #[t, tn] }) (vs vx : Value) (hs : a.eval s = vs) (hx : a.eval x = vx)
    (v' : Value) (w' : World) (hr : (Builtin.append_ #[t, tn] o.type #[vs, vx]).run P w = .ok v' w') (h : K (a.put dd v') w') : if Region.wanted o (yielded ops a.tmps) = true then Oper.wp P o a w K Q else E := by
  subst hdd
  rw [if_pos (by simp [Region.wanted, hgd])]
  exact Go.Lib.wp_append_run w s x t tn ho vs vx hs hx v' w' hr h
end

theorem u8_int (x : Int) : ∃ b : UInt8, x % 256 = (b.toNat : Int) := ⟨UInt8.ofNat (x % 256).toNat, by simp; omega⟩

theorem bC_set (l : List UInt8) (i : Nat) (b : UInt8) : (bC l).set i (.int .u8 b.toNat) = bC (l.set i b) := by simp [bC, List.map_set]

/-- Two results: a cell of many cells, and a value. -/
theorem results_cell_mid2 {fn : Func} {p q : Tmp} {ty : TypeId} (h : fn.results = #[.cell p ty, .tmp q]) (tmps : Array Value) (W : World) (b o : Nat) (cs : List Value) (d : TypeDesc) (hp : tmps[p]? = some (.pointer (some ⟨b, o, none⟩)))
    (hc : W.rangeAt b o cs) (hu : Tryz.prog.underlying ty = some d) (hd : d.isRow = true) (hi : (Tryz.prog.info? ty).map (·.size) = some cs.length) :
    (results fn tmps).run Tryz.prog W = .ok (.tuple #[.agg cs.toArray, tmps.getD q undef]) W := by
  have := run_loadVar_mid W b o ty cs d hc hu hd hi
  have hp' : tmps[p]?.getD undef = .pointer (some ⟨b, o, none⟩) := by rw [hp]; rfl
  simp [results, h, hp', asAddr, this]

section
variable {c : Col} {w : World}

theorem len_any {p pc : Nat} {n : Int} {kc : Nat} {a : Option Addr} {m cap : Nat} (h : At c w pc kc [.int .i64 n]) (h0 : w.cell? ⟨p, 0, none⟩ = some (.pointer (some ⟨pc, 0, none⟩))) (h9 : w.cell? ⟨p, 9, none⟩ = some (.slice a m cap)) (hn : 0 ≤ n) (hn2 : n ≤ 1000000000) (hm : m ≤ 1000000000) :
    Calls Tryz.prog 206 #[.pointer (some ⟨p, 0, none⟩)] w fun r w' => r = .returned (.int .i64 (n + m)) ∧ ∃ j, w' = w.drewN j := by
  have N := none_any h0
  have C := clen_any n (h.keep (Step.rf.drewN 1) (fun h => h))
  have K1 : (fun W : World => W.cell? ⟨p, 0, none⟩ = some (.pointer (some ⟨pc, 0, none⟩)) ∧ W.cell? ⟨p, 9, none⟩ = some (.slice a m cap)) w.drew := ⟨h0, h9⟩
  have hw : IntKind.i64.wrap (n + (m : Int)) = n + (m : Int) := IntWalk.i64_in _ (by omega)
  clear h
  go_enter Tryz.func206, Tryz.ntmps206
  go_wp2_with fail
  with_reducible refine N.mono ?_
  rintro e w1 ⟨rfl, rfl⟩
  go_wp2_with fail
  refine region_planM (fun W => W.cell? ⟨p, 0, none⟩ = some (.pointer (some ⟨pc, 0, none⟩)) ∧ W.cell? ⟨p, 9, none⟩ = some (.slice a m cap)) (fun i => !([11] : List Nat).contains i) (by kernel_rfl) ?_
  refine tk2 0 _ 5 rfl rfl K1 ?_
  refine tk2 1 _ 6 rfl rfl K1 ?_
  refine tk2 2 _ 7 rfl rfl K1 ?_
  refine tk2 3 _ 8 rfl rfl K1 ?_
  refine tk2 5 _ 10 rfl rfl K1 ?_
  refine tk2 6 _ 11 rfl rfl K1 ?_
  refine tk2 7 _ 12 rfl rfl K1 ?_
  refine tk2 8 _ 13 rfl rfl K1 ?_
  refine tk2 9 _ 14 rfl rfl K1 ?_
  refine wpAnyM.one (i := 4) (by kernel_rfl) rfl (fun KQ hK => ?_)
  go_simp
  refine C.mono ?_
  rintro e w2 ⟨rfl, rfl⟩
  go_simp
  refine hK.out _ _ (fun _ => K1) ?_
  clear hK KQ
  (try simp only [Act.put, List.setIfInBounds_toArray, List.set_cons_zero, List.set_cons_succ])
  refine tk2 10 _ 15 rfl rfl K1 ?_
  refine wpAnyM.one (i := 11) (by kernel_rfl) rfl (fun KQ hK => ?_)
  go_simp
  refine hK.out _ _ (fun h => absurd h (by decide)) ?_
  clear hK KQ
  (try simp only [Act.put, List.setIfInBounds_toArray, List.set_cons_zero, List.set_cons_succ])
  refine wpAnyM.done (by kernel_rfl) ?_ _
  go_wp2_with fail
  go_ret
  exact ⟨rfl, 1, rfl⟩

set_option maxRecDepth 100000 in
set_option maxHeartbeats 3200000 in
theorem sum_any (hok : Ok c w) {p pc k kc kb n : Nat} {rv : Value} {l : List UInt8} (hc : At c w pc kc [.int .i64 n]) (hp : WdsM c w p k [.pointer (some ⟨pc, 0, none⟩)] [rv] 8) (hr : Sl TByte c kb 0 w rv l) (hl : l.length < 64) (hn : n ≤ 1000000) :
    Calls Tryz.prog 193 #[.pointer (some ⟨p, 0, none⟩)] w fun r w' => ∃ h : List UInt8, h.length = 32 ∧ r = .returned (.tuple #[.agg (bC h).toArray, .int .i64 0]) ∧ ∃ c', Step No c w c' w' ∧ Ok c' w' := by
  obtain ⟨q, hq, hqc⟩ := hok.top (k + kc + kb)
  have hq0 : q ≠ 0 := by omega
  obtain ⟨l0, hl0, hx0, ap⟩ := hp.at_
  -- out
  obtain ⟨ao, oo, so⟩ := newAt hok (bC (List.replicate 32 0)) 51 q
  rw [show (bC (List.replicate 32 0)).toArray = #[.int .u8 0, .int .u8 0, .int .u8 0, .int .u8 0, .int .u8 0, .int .u8 0, .int .u8 0, .int .u8 0, .int .u8 0, .int .u8 0, .int .u8 0, .int .u8 0, .int .u8 0, .int .u8 0, .int .u8 0, .int .u8 0, .int .u8 0, .int .u8 0, .int .u8 0, .int .u8 0, .int .u8 0, .int .u8 0, .int .u8 0, .int .u8 0, .int .u8 0, .int .u8 0, .int .u8 0, .int .u8 0, .int .u8 0, .int .u8 0, .int .u8 0, .int .u8 0] from rfl] at ao oo so
  obtain ⟨W1, hW1⟩ : ∃ W1, w.alloc (.cells #[.int .u8 0, .int .u8 0, .int .u8 0, .int .u8 0, .int .u8 0, .int .u8 0, .int .u8 0, .int .u8 0, .int .u8 0, .int .u8 0, .int .u8 0, .int .u8 0, .int .u8 0, .int .u8 0, .int .u8 0, .int .u8 0, .int .u8 0, .int .u8 0, .int .u8 0, .int .u8 0, .int .u8 0, .int .u8 0, .int .u8 0, .int .u8 0, .int .u8 0, .int .u8 0, .int .u8 0, .int .u8 0, .int .u8 0, .int .u8 0, .int .u8 0, .int .u8 0] 51) = W1 := ⟨_, rfl⟩
  rw [hW1] at ao oo so
  obtain ⟨c1, hc1⟩ : ∃ c1, c.put w.heap.size q = c1 := ⟨_, rfl⟩
  rw [hc1] at ao oo so
  obtain ⟨ob, hob⟩ : ∃ b, w.heap.size = b := ⟨_, rfl⟩
  rw [hob] at ao
  have ap1 := ap.keep so (fun h => h)
  have hr1 := hr.kn so
  have hc1' := hc.keep so (fun h => h)
  have p0 := ap1.get (i := 0) rfl
  have N := none_any p0
  -- the words, by value
  have hcw : CellsAt W1 p 1 (u32C l0) := by
    have := (cells_app (xs := [.pointer (some ⟨pc, 0, none⟩)]) ap1.cells).2
    exact (cells_app this).1
  have hcr : ap1.cells = ap1.cells := rfl
  have p9 := ap1.get (i := 9) (u := rv) (by rw [List.getElem?_append_right (by simp), List.getElem?_append_right (by simp [u32C_len, hl0])]; simp [u32C_len, hl0])
  have hBl : (u32C l0).length = 8 := by rw [u32C_len, hl0]
  have hi1 : (Tryz.prog.info? 271).map (·.size) = some (u32C l0).length := by rw [info_words, hBl]
  have hi2 : (Tryz.prog.info? 271).map (·.size) = some (u32C l0).toArray.size := by rw [info_words]; simp [hBl]
  have hB1 := u32C_one l0
  obtain ⟨a2, o2, s2⟩ := newAt oo (u32C (List.replicate 8 0)) 271 (q + 1)
  rw [show (u32C (List.replicate 8 0)).toArray = #[.int .u32 0, .int .u32 0, .int .u32 0, .int .u32 0, .int .u32 0, .int .u32 0, .int .u32 0, .int .u32 0] from rfl] at a2 o2 s2
  obtain ⟨W2, hW2⟩ : ∃ W2, W1.alloc (.cells #[.int .u32 0, .int .u32 0, .int .u32 0, .int .u32 0, .int .u32 0, .int .u32 0, .int .u32 0, .int .u32 0] 271) = W2 := ⟨_, rfl⟩
  rw [hW2] at a2 o2 s2
  obtain ⟨c2, hc2⟩ : ∃ c2, c1.put W1.heap.size (q + 1) = c2 := ⟨_, rfl⟩
  rw [hc2] at a2 o2 s2
  obtain ⟨hb, hhb⟩ : ∃ b, W1.heap.size = b := ⟨_, rfl⟩
  rw [hhb] at a2
  obtain ⟨S0, a3⟩ := a2.st o2 (Nat.succ_ne_zero q) (ty := 271) (us := u32C l0) (by rw [hBl]; rfl) hi1 hB1
  have ht0 := a2.there (o := 0) (n := (u32C l0).toArray.size) o2 (Nat.succ_ne_zero q) (by simp [u32C_len, hl0])
  have hB2 := all_oneCell_toArray hB1
  have s3 : Step (One (q + 1)) c2 W2 c2 (W2.setCells hb 0 (u32C l0)) := Step.setCells (K := One (q + 1)) (.inr a2.col) _ _ _ Step.refl
  have o3 := Ok.setCells (b := hb) (u32C l0) 0 _ o2
  have w3 : WdsM c2 (W2.setCells hb 0 (u32C l0)) hb (q + 1) [] [] 8 := Wds.mid (show Wds c2 (W2.setCells hb 0 (u32C l0)) hb (q + 1) 8 from ⟨l0, hl0, hx0, a3⟩)
  have sall : Step (Hi q q) c w c2 (W2.setCells hb 0 (u32C l0)) := (so.trans s2).ofNo.hi s3 (.inr (by omega))
  have ao3 := (ao.keep s2 (fun h => h)).keep s3 (show ¬ q = q + 1 by omega)
  have ap3 := (ap1.keep s2 (fun h => h)).keep s3 (show ¬ k = q + 1 by omega)
  have hc3 := (hc1'.keep s2 (fun h => h)).keep s3 (show ¬ kc = q + 1 by omega)
  have hr3 := (hr1.kn s2).keep s3 (show ¬ kb = q + 1 by omega) (show ¬ 0 = q + 1 by omega)
  obtain ⟨B, hB⟩ : ∃ B, u32C l0 = B := ⟨_, rfl⟩
  have HBl : Hid (B.length = 8) := Lib.hid (by rw [← hB]; exact hBl)
  rw [hB] at hcw hi1 hi2 ht0 hB2 s3 o3 w3 sall ao3 ap3 hc3 hr3
  obtain ⟨W3, hW3⟩ : ∃ W3, W2.setCells hb 0 B = W3 := ⟨_, rfl⟩
  rw [hW3] at o3 w3 sall ao3 ap3 hc3 hr3
  have SL := Lib.hid (And.intro hcw (And.intro hi1 (And.intro ht0 (And.intro hi2 hB2))))
  have X3 := Lib.hid (And.intro ao3 (And.intro ap3 (And.intro hc3 (And.intro hr3 (And.intro w3 (And.intro sall o3))))))
  clear ao oo so ap1 hr1 hc1' p0 hcw hcr p9 hBl hi1 hi2 hB1 a2 o2 s2 S0 a3 ht0 hB2 s3 o3 w3 sall ao3 ap3 hc3 hr3 ap hp hc hr hc1 hc2 hok
  go_enter Tryz.func193, Tryz.ntmps193
  go_wp2_with fail
  (try rw [hW1])
  (try rw [hob])
  with_reducible refine N.mono ?_
  rintro e w1 ⟨rfl, rfl⟩
  clear N
  go_wp2_with (first | (refine wpList_load_mid rfl 271 _ rfl p 1 rfl B _ SL.out.1 Tryz.underlying271 rfl SL.out.2.1 ?_) | (refine wpList_store_mid rfl 271 _ _ rfl hb 0 B.toArray rfl rfl SL.out.2.2.1 SL.out.2.2.2.1 SL.out.2.2.2.2 ?_))
  rw [hW3]
  obtain ⟨va, vc, hrv, _⟩ := X3.out.2.2.2.1.form
  subst hrv
  have y9 : W3.drew.cell? ⟨p, 9, none⟩ = some (.slice va l.length vc) := X3.out.2.1.get (i := 9) (by have hbl := HBl.out; rw [List.getElem?_append_right (by simp), List.getElem?_append_right (by simp; omega)]; simp [hbl])
  have hpl : p < W3.drew.heap.size := X3.out.2.1.lt
  have C := clone_any (X3.out.2.2.2.2.2.2.drewN 1) (q + 2) (X3.out.2.2.2.1.kn (Step.rf.drewN 1)) (by omega)
  obtain ⟨m, hm⟩ : ∃ m, 64 - l.length = m := ⟨_, rfl⟩
  have hw64 : IntKind.i64.wrap (64 - (l.length : Int)) = (m : Int) := by rw [IntWalk.i64_in _ (by omega)]; omega
  have HM := Lib.hid hm
  clear hm
  have K4 : (fun W : World => W.cell? ⟨p, 9, none⟩ = some (.slice va l.length vc)) W3.drew := y9
  refine region_planM (fun W => W.cell? ⟨p, 9, none⟩ = some (.slice va l.length vc)) (fun i => !([12] : List Nat).contains i) (by kernel_rfl) ?_
  refine tk1 0 _ 14 rfl rfl K4 ?_
  refine tk1 1 _ 15 rfl rfl K4 ?_
  refine tk1 2 _ 16 rfl rfl K4 ?_
  refine tk1 3 _ 17 rfl rfl K4 ?_
  refine tk1 5 _ 19 rfl rfl K4 ?_
  refine tk1 6 _ 20 rfl rfl K4 ?_
  refine tk1 7 _ 21 rfl rfl K4 ?_
  refine tk1 8 _ 22 rfl rfl K4 ?_
  refine tk1 9 _ 23 rfl rfl K4 ?_
  refine tk1 10 _ 24 rfl rfl K4 ?_
  refine wpAnyM.one (i := 4) (by kernel_rfl) rfl (fun KQ hK => ?_)
  go_simp
  refine C.mono ?_
  rintro e w4 ⟨v4, c4, rfl, p4, s4, o4⟩
  have K4 : (fun W : World => W.cell? ⟨p, 9, none⟩ = some (.slice va l.length vc)) w4 := (s4.cell hpl (fun h => h)).trans y9
  have hpl4 : p < w4.heap.size := Nat.lt_of_lt_of_le hpl s4.size
  go_simp
  refine hK.out _ _ (fun _ => K4) ?_
  clear hK KQ
  (try simp only [Act.put, List.setIfInBounds_toArray, List.set_cons_zero, List.set_cons_succ])
  refine wpAnyM.one (i := 11) (by kernel_rfl) rfl (fun KQ hK => ?_)
  obtain ⟨v5, w5, c5, hr5, p5, s5, o5⟩ := run_appz o4 p4 (Nat.succ_ne_zero _) m (by have := HM.out; omega) (by have := HM.out; omega) 26
  refine step_append_run (dd := some 25) rfl rfl _ _ 26 3 rfl v4 (.int .i64 m) rfl rfl v5 w5 hr5 ?_
  obtain ⟨va5, vc5, rfl, _⟩ := p5.sl.form
  have hl5 : (l ++ List.replicate m (0 : UInt8)).length = 64 := by have := HM.out; simp; omega
  obtain ⟨l5, hl5e⟩ : ∃ l5, l ++ List.replicate m (0 : UInt8) = l5 := ⟨_, rfl⟩
  rw [hl5e] at p5 hl5 ⊢
  rw [hl5] at p5 ⊢
  have ap4 := (X3.out.2.1.keep (Step.rf.drewN (K := No) 1) (fun h => h)).keep s4 (fun h => h)
  have ap5 := ap4.keep s5 (show ¬ k = q + 2 by omega)
  have K4 : (fun W : World => W.cell? ⟨p, 9, none⟩ = some (.slice va l.length vc)) w5 := ap5.get (i := 9) (by have hbl := HBl.out; rw [List.getElem?_append_right (by simp), List.getElem?_append_right (by simp; omega)]; simp [hbl])
  have X5 := Lib.hid (And.intro (((X3.out.1.keep (Step.rf.drewN (K := No) 1) (fun h => h)).keep s4 (fun h => h)).keep s5 (show ¬ q = q + 2 by omega)) (And.intro ap5 (And.intro (((X3.out.2.2.1.keep (Step.rf.drewN (K := No) 1) (fun h => h)).keep s4 (fun h => h)).keep s5 (show ¬ kc = q + 2 by omega)) (And.intro p5.sl (And.intro (((X3.out.2.2.2.2.1.keep (Step.rf.drewN (K := No) 1) (fun h => h)).keep s4 (fun h => h)).keep s5 (show ¬ q + 1 = q + 2 by omega)) (And.intro (((X3.out.2.2.2.2.2.1.drewN 1).trans s4.ofNo).hi s5 (.inr (by omega))) o5))))))
  have HL5 := Lib.hid hl5
  clear p4 s4 o4 p5 s5 o5 ap4 ap5 hl5 hl5e hr5
  refine hK.out _ _ (fun _ => K4) ?_
  clear hK KQ
  (try simp only [Act.put, List.setIfInBounds_toArray, List.set_cons_zero, List.set_cons_succ])
  refine wpAnyM.one (i := 12) (by kernel_rfl) rfl (fun KQ hK => ?_)
  go_simp
  refine hK.out _ _ (fun h => absurd h (by decide)) ?_
  clear hK KQ
  (try simp only [Act.put, List.setIfInBounds_toArray, List.set_cons_zero, List.set_cons_succ])
  refine wpAnyM.done (by kernel_rfl) ?_ _
  clear K4 C
  have y5 := X5.out.2.1.get (i := 0) rfl
  have y59 := X5.out.2.1.get (i := 9) (u := .slice va l.length vc) (by have hbl := HBl.out; rw [List.getElem?_append_right (by simp), List.getElem?_append_right (by simp; omega)]; simp [hbl])
  have LN := len_any X5.out.2.2.1 y5 y59 (by omega) (by omega) (by omega)
  clear X3 y9 hpl
  go_wp2_with fail
  with_reducible refine LN.mono ?_
  rintro e w6 ⟨rfl, j6, rfl⟩
  have BK := block_any (X5.out.2.2.2.2.2.2.drewN j6) (pre := []) (o := 0) rfl (X5.out.2.2.2.2.1.keep (Step.rf.drewN j6) (fun h => h)) (Nat.succ_ne_zero _) (X5.out.2.2.2.1.kn (Step.rf.drewN j6)) (by omega) HL5.out (n + l.length) true
  clear LN
  go_wp2_with fail
  with_reducible refine BK.mono ?_
  rintro e w7 ⟨rfl, c7, h7, s7, o7⟩
  have X7 := Lib.hid (And.intro ((X5.out.1.keep (Step.rf.drewN (K := No) j6) (fun h => h)).keep s7 (show ¬ q = q + 1 by omega)) (And.intro h7 (And.intro ((X5.out.2.2.2.2.2.1.drewN j6).hi s7 (.inr (by omega))) o7)))
  clear BK h7 s7 o7 X5 y5 y59
  go_wp2_with fail
  go_loopw [30] (fun vi wr => ∃ (i : Nat) (hs : List UInt8), i ≤ 32 ∧ vi = .int .i64 i ∧ hs.length = 32 ∧ At c7 wr ob q (bC hs) ∧ WdsM c7 wr hb (q + 1) [] [] 8 ∧ Step (Hi q q) c w c7 wr ∧ Ok c7 wr) (fun vi _ => 32 - (intOf vi).toNat)
  case atStart => exact ⟨0, _, by omega, rfl, by simp, X7.out⟩
  case round =>
    clear X7
    obtain ⟨i, hs, hi, rfl, hhs, ah, wh, st, ok⟩ := hrel
    by_cases hlt : i < 32
    · obtain ⟨z, hz, yz⟩ := wh.cell (i := i / 4) (by omega)
      rw [List.length_nil, Nat.zero_add] at yz
      have yo : wr.cell? ⟨ob, i, none⟩ = some (.int .u8 (hs[i]'(by omega)).toNat) := ah.get (bC_get (by rw [List.getElem?_eq_getElem]))
      have yf := ok.soft ob i (by rw [ah.col]; exact hq0)
      have e1 : Int.tdiv (i : Int) 4 = ((i / 4 : Nat) : Int) := by rw [Int.tdiv_eq_ediv_of_nonneg (by omega)]; omega
      have e2 : Int.tmod (i : Int) 4 = ((i % 4 : Nat) : Int) := by rw [Int.tmod_eq_emod_of_nonneg (by omega)]; omega
      have hlt' : (i : Int) < 32 := by omega
      have h40 : (0 : Int) ≤ ((i / 4 : Nat) : Int) := by omega
      have h48 : ((i / 4 : Nat) : Int) < 8 := by omega
      have X := Lib.hid (And.intro ah (And.intro wh (And.intro st ok)))
      clear ah wh st ok
      go_wp2_with fail
      obtain ⟨ah, wh, st, ok⟩ := X.out
      obtain ⟨b, hb8⟩ := u8_int ((z : Int) / 2 ^ (8 * (i % 4)))
      rw [hb8]
      have hob : hb ≠ ob := fun e => by have e1 := ah.col; have e2 := wh.col; rw [e, e1] at e2; omega
      have a2 := ah.setN (i := i) (by rw [bC_len]; omega) (.int .u8 b.toNat)
      rw [bC_set] at a2
      exact ⟨⟨i + 1, hs.set i b, by omega, by go_num, by simpa using hhs, a2, wh.off hob, st.hi ((Step.refl (K := One q)).setCell (a := ⟨ob, i, none⟩) (.inr ah.col) _) (.inr (Nat.le_refl _)), ok.setCell _ _⟩, by simp [intOf]; omega⟩
    · have hi32 : i = 32 := by omega
      subst hi32
      obtain ⟨B, hB⟩ : ∃ B, bC hs = B := ⟨_, rfl⟩
      have hBl : B.length = 32 := by rw [← hB, bC_len, hhs]
      have hB1 : ∀ v ∈ B, v.oneCell' = true := by rw [← hB]; exact bC_one _
      rw [hB] at ah
      have hi0 : (Tryz.prog.info? 51).map (·.size) = some B.length := by rw [info_hash, hBl]
      have hi1 : (Tryz.prog.info? 51).map (·.size) = some B.toArray.size := by rw [info_hash]; simp [hBl]
      have ht0 := ah.there (o := 0) (n := B.toArray.size) ok hq0 (by simp)
      obtain ⟨S0, a2⟩ := ah.st ok hq0 (ty := 51) (us := B) rfl hi0 hB1
      have X := Lib.hid (And.intro ah (And.intro a2 (And.intro hi0 (And.intro (all_oneCell_toArray hB1) (And.intro ht0 (And.intro (st.hi (Step.setCells (K := One q) (.inr ah.col) B 0 _ Step.refl) (.inr (Nat.le_refl _))) (And.intro (Ok.setCells (b := ob) B 0 _ ok) (And.intro hi1 (And.intro hB hhs)))))))))
      clear ah wh st ok hi0 hi1 ht0 S0 a2 hB hBl hB1 hhs
      go_wp2_with (first | (refine wpList_load_mid rfl 51 _ rfl ob 0 rfl B _ X.out.1.cells Tryz.underlying51 rfl X.out.2.2.1 ?_) | (refine wpList_store_mid rfl 51 _ _ rfl ob 0 B.toArray rfl rfl X.out.2.2.2.2.1 X.out.2.2.2.2.2.2.2.1 X.out.2.2.2.1 ?_))
      refine bodyPost_ret (results_cell_mid2 rfl _ _ ob 0 B _ rfl X.out.2.1.cells Tryz.underlying51 rfl X.out.2.2.1) rfl ⟨hs, X.out.2.2.2.2.2.2.2.2.2, by rw [X.out.2.2.2.2.2.2.2.2.1]; rfl, c7, ?_, X.out.2.2.2.2.2.2.1⟩
      exact X.out.2.2.2.2.2.1.drop fun b _ e => by have := hqc b; rcases e with e | e <;> omega
end
end Go.Proofs.YtgcobbapaaihiaaGreat
