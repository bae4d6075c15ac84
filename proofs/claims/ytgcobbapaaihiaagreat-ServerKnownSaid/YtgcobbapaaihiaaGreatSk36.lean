/- ServerKnown, part 36: lemmas, each with its own conditions. -/
import Derived.Test.YtgcobbapaaihiaaGreatSk25
import Derived.Test.YtgcobbapaaihiaaGreatSk34
import Derived.Test.YtgcobbapaaihiaaGreatSk35
set_option linter.unusedVariables false
set_option linter.unusedSimpArgs false
namespace Go.Proofs.YtgcobbapaaihiaaGreat
open Go.RowKit

def wayF (f db : Nat) : Value := .func (.func f) #[.pointer (some ⟨db, 0, none⟩)] #[]
/-- The ways' cells. -/
def waysC (db : Nat) : List Value := [wayF 60 db, wayF 61 db, wayF 60 db, wayF 62 db, wayF 63 db, wayF 64 db, wayF 65 db, wayF 66 db, wayF 67 db, wayF 68 db]
theorem waysC_one (db : Nat) : ∀ v ∈ waysC db, v.oneCell' = true := by
  intro v hv
  simp only [waysC, List.mem_cons, List.not_mem_nil, or_false] at hv
  rcases hv with rfl | rfl | rfl | rfl | rfl | rfl | rfl | rfl | rfl | rfl <;> rfl
theorem zero_ways : ∃ Z, Z.length = 10 ∧ zeroIs Tryz.prog 81 Z := ⟨zeroL 81, by kernel_rfl, by unfold zeroIs; kernel_rfl⟩
theorem info_ways : (Tryz.prog.info? 81).map (·.size) = some 10 := by kernel_rfl

section
variable {c : Col} {w : World}

set_option maxRecDepth 100000 in
set_option maxHeartbeats 1600000 in
theorem ways_any (hok : Ok c w) (db : Nat) :
    Calls Tryz.prog 34 #[.pointer (some ⟨db, 0, none⟩)] w fun r w' => r = .returned (.agg (waysC db).toArray) ∧ ∃ c', Step No c w c' w' ∧ Ok c' w' := by
  obtain ⟨Z, hZ, hz⟩ := zero_ways
  obtain ⟨W1, c1, hW1, a1, o1, s1, t1, t2, t3, t4⟩ := stnew hok hZ (show (waysC db).length = 10 from rfl) (waysC_one db) info_ways (q := 1) (by decide)
  obtain ⟨xb, hxb⟩ : ∃ b, w.heap.size = b := ⟨_, rfl⟩
  rw [hxb] at hW1 a1 t1
  have SL := Lib.hid (And.intro t1 (And.intro t2 (And.intro t3 (And.intro a1.cells (And.intro t4 (And.intro hz (And.intro s1 (And.intro hW1 o1))))))))
  clear t1 t2 t3 a1 t4 hz hW1 s1 o1 hok hZ
  go_enter Tryz.func34, Tryz.ntmps34
  go_wp2_with (first | (refine wpList_alloc_zero rfl (some 2) rfl 81 rfl SL.out.2.2.2.2.2.1 ?_; rw [hxb]) | (refine wpList_store_mid rfl 81 _ _ rfl xb 0 (waysC db).toArray rfl rfl SL.out.1 SL.out.2.1 SL.out.2.2.1 ?_; rw [SL.out.2.2.2.2.2.2.2.1]))
  refine bodyPost_ret (results_cell_mid rfl _ _ xb 0 (waysC db) _ rfl SL.out.2.2.2.1 Tryz.underlying81 rfl SL.out.2.2.2.2.1) rfl ⟨rfl, c1, SL.out.2.2.2.2.2.2.1, SL.out.2.2.2.2.2.2.2.2⟩
end
end Go.Proofs.YtgcobbapaaihiaaGreat

set_option linter.unusedVariables false
set_option linter.unusedSimpArgs false
namespace Go.Proofs.YtgcobbapaaihiaaGreat
open Go.RowKit

/-- What is answered in a mood; when. -/
def outS (m : Int) (s : Srv) (h id : Int) : List UInt8 :=
  if m = 1 then wayT gStay s h id else if m = 3 then wayT gStay s h id else if m = 4 then (wayT gStay s h id).take ((wayT gStay s h id).length - 1) else if m = 5 then offT s h id else if m = 6 then wayT gBroken s h id else if m = 7 then wayT gPoor s h id else if m = 8 then otherT s h id else if m = 9 then wayT gOdd s h id else []
def tickS (m : Int) (s : Srv) : Int := if m = 3 then s.delay + s.slow else s.delay
/-- Which function answers. -/
def fnW (m : Int) : Nat :=
  if m = 1 then 61 else if m = 3 then 62 else if m = 4 then 63 else if m = 5 then 64 else if m = 6 then 65 else if m = 7 then 66 else if m = 8 then 67 else if m = 9 then 68 else 60

theorem mood_cases {m : Int} (h0 : 0 < m) (h9 : m < 10) : m = 1 ∨ m = 2 ∨ m = 3 ∨ m = 4 ∨ m = 5 ∨ m = 6 ∨ m = 7 ∨ m = 8 ∨ m = 9 := by omega

theorem fnW_enters {m : Int} (h0 : 0 < m) (h9 : m < 10) (args : Array Value) (w : World) : (callFunc (fnW m) args).run Tryz.prog w = .ok (.enter (fnW m) args) w := by
  rcases mood_cases h0 h9 with rfl | rfl | rfl | rfl | rfl | rfl | rfl | rfl | rfl
  · exact enters_of Tryz.func61 (by kernel_rfl) rfl _ _
  · exact enters_of Tryz.func60 (by kernel_rfl) rfl _ _
  · exact enters_of Tryz.func62 (by kernel_rfl) rfl _ _
  · exact enters_of Tryz.func63 (by kernel_rfl) rfl _ _
  · exact enters_of Tryz.func64 (by kernel_rfl) rfl _ _
  · exact enters_of Tryz.func65 (by kernel_rfl) rfl _ _
  · exact enters_of Tryz.func66 (by kernel_rfl) rfl _ _
  · exact enters_of Tryz.func67 (by kernel_rfl) rfl _ _
  · exact enters_of Tryz.func68 (by kernel_rfl) rfl _ _

theorem index_ways {m : Int} (h0 : 0 < m) (h9 : m < 10) (db : Nat) (W : World) : (Instr.index 81 (.agg (waysC db).toArray) (.int .i64 m)).run Tryz.prog W = .ok (wayF (fnW m) db) W := by
  have hi : (Tryz.prog.info? 80).map (·.size) = some 1 := by kernel_rfl
  have hs : (sizeOf 80).run Tryz.prog W = .ok 1 W := by
    cases hq : Tryz.prog.info? 80 with
    | none => rw [hq] at hi; cases hi
    | some i =>
      have : i.size = 1 := by rw [hq] at hi; simpa using hi
      simp [sizeOf, typeInfo, hq, this]
  have hu := run_underlying Tryz.underlying81 W
  have hu2 := run_underlying Tryz.underlying80 W
  rcases mood_cases h0 h9 with rfl | rfl | rfl | rfl | rfl | rfl | rfl | rfl | rfl <;> simp [Instr.index, asIntOf, hu, hu2, part, isAgg, hs, Value.cells, waysC, fnW]

section
variable {c : Col} {w : World}

theorem way_any (hok : Ok c w) {s : Srv} {k kd db : Nat} (hk : ¬ k = kd) (hkd : kd ≠ 0) {vc vo vm : Value} (hs : s.At c k w vc vo vm) {id h : Int} (hid : idB id = true) (hh : heightB h = true) (hd : At c w db kd (deskC s vc vo vm id h s.delay)) (hc : checkS s = 0) {m : Int} (h0 : 0 < m) (h9 : m < 10) (kx : Nat) :
    Calls Tryz.prog (fnW m) #[.pointer (some ⟨db, 0, none⟩)] w fun r w' => ∃ v, r = .returned v ∧ ∃ c', Sl TByte c' kx 0 w' v (outS m s h id) ∧ At c' w' db kd (deskC s vc vo vm id h (tickS m s)) ∧ Step (One kd) c w c' w' ∧ Ok c' w' := by
  have hh2 : 0 ≤ h ∧ h ≤ 4611686018427387904 := by simp only [heightB, Bool.and_eq_true, decide_eq_true_eq] at hh; omega
  have G : ∀ {f : Nat} {L : List UInt8}, (Calls Tryz.prog f #[.pointer (some ⟨db, 0, none⟩)] w fun r w' => ∃ v, r = .returned v ∧ ∃ c', Sl TByte c' kx 0 w' v L ∧ Step No c w c' w' ∧ Ok c' w') →
      Calls Tryz.prog f #[.pointer (some ⟨db, 0, none⟩)] w fun r w' => ∃ v, r = .returned v ∧ ∃ c', Sl TByte c' kx 0 w' v L ∧ At c' w' db kd (deskC s vc vo vm id h s.delay) ∧ Step (One kd) c w c' w' ∧ Ok c' w' :=
    fun H => H.mono (by rintro r w' ⟨v, rfl, c', sl, st, o⟩; exact ⟨v, rfl, c', sl, hd.kn st, st.ofNo, o⟩)
  rcases mood_cases h0 h9 with rfl | rfl | rfl | rfl | rfl | rfl | rfl | rfl | rfl
  · exact G (wplain_any hok hs hid hd kx)
  · exact G (wquiet_any hok db kx)
  · have hw : IntKind.i64.wrap (s.delay + s.slow) = s.delay + s.slow := IntWalk.i64_in _ (by
      have h1 : ¬ badW s.delay = true ∧ ¬ badW s.slow = true := by
        unfold checkS at hc
        split at hc
        · cases hc
        split at hc
        · cases hc
        split at hc
        · cases hc
        · exact ⟨by assumption, by assumption⟩
      simp only [badW, Bool.or_eq_true, decide_eq_true_eq, not_or] at h1
      omega)
    exact wlate_any hok hk hkd hs hid hd hw kx
  · exact G (wcut_any hok hs hid hd kx)
  · exact G (woff_any hok hs hid hh2 hd kx)
  · exact G (wbroken_any hok hs hid hd kx)
  · exact G (wpoor_any hok hs hid hd kx)
  · exact G (wother_any hok hs hid hd kx)
  · exact G (wodd_any hok hs hid hd kx)
end
end Go.Proofs.YtgcobbapaaihiaaGreat

set_option linter.unusedVariables false
set_option linter.unusedSimpArgs false
namespace Go.Proofs.YtgcobbapaaihiaaGreat
open Go.RowKit

theorem moodS_pos {s : Srv} {nth : Int} (h : moodS s nth ≠ 0) : checkS s = 0 ∧ 0 < moodS s nth ∧ moodS s nth < 10 := by
  unfold moodS at h ⊢
  split at h
  · exact absurd rfl h
  · next hn =>
    rw [if_neg hn]
    have hc : checkS s = 0 := by
      rcases Decidable.em (checkS s = 0) with h' | h'
      · exact h'
      · exact absurd (.inl h') hn
    refine ⟨hc, ?_⟩
    split at h
    · next h0 => rw [if_pos h0]; omega
    · next h0 =>
      rw [if_neg h0]
      generalize (nth % (s.moods.length : Int)).toNat = i at h ⊢
      rw [List.getD_eq_getElem?_getD] at h ⊢
      cases hg : s.moods[i]? with
      | none => rw [hg] at h; exact absurd rfl h
      | some x =>
        simp only [Option.getD_some]
        have ha : ¬ s.moods.any badM = true := by
          unfold checkS at hc
          split at hc
          · cases hc
          split at hc
          · cases hc
          split at hc
          · cases hc
          split at hc
          · cases hc
          · assumption
        have hx : ¬ badM x = true := fun hb => ha (List.any_eq_true.2 ⟨x, List.mem_of_getElem? hg, hb⟩)
        simp only [badM, Bool.or_eq_true, decide_eq_true_eq, not_or] at hx
        omega

/-- What msg.Decode tells of bytes: a message of a kind, a fault. -/
def Decodes (bs : List UInt8) (k1 e0 e1 : Int) (PM : List Value → Prop) : Prop :=
  (∀ M, PM M → M.length = 170 ∧ (∀ v ∈ M, v.oneCell' = true) ∧ M[0]? = some (.int .i64 k1)) ∧
  ∀ (c : Col) (w : World) (kx : Nat) (v : Value), Ok c w → Sl TByte c kx 0 w v bs →
    Calls Tryz.prog 33 #[v] w fun r w' => ∃ M, PM M ∧ r = .returned (.tuple #[.agg M.toArray, .agg #[.int .i64 e0, .int .i64 e1]]) ∧ ∃ c', Step No c w c' w' ∧ Ok c' w'

/-- What Reply tells. -/
def noB (s : Srv) (nth k1 e0 e1 : Int) : Bool := (moodS s nth == 0) || !(e0 == 0 && e1 == 0) || !(k1 == 1)
def replyT (s : Srv) (nth k1 e0 e1 id h : Int) : List UInt8 := if noB s nth k1 e0 e1 = true then [] else outS (moodS s nth) s h id
def waitT (s : Srv) (nth : Int) (l : List UInt8) : Int := if l = [] then 0 else tickS (moodS s nth) s
def isT (l : List UInt8) : Bool := if l = [] then false else true

theorem zero_fault : ∃ Z, Z.length = 2 ∧ zeroIs Tryz.prog 74 Z := ⟨zeroL 74, by kernel_rfl, by unfold zeroIs; kernel_rfl⟩
theorem zero_msg : ∃ Z, Z.length = 170 ∧ zeroIs Tryz.prog 72 Z := ⟨zeroL 72, by kernel_rfl, by unfold zeroIs; kernel_rfl⟩
theorem info_fault2 : (Tryz.prog.info? 74).map (·.size) = some 2 := by kernel_rfl

section
variable {c : Col} {w : World}

/-- Two new blocks, both written. -/
theorem stnew2 (hok : Ok c w) {ty ty2 : TypeId} {Z B Z2 B2 : List Value} {n n2 : Nat} (hZ : Z.length = n) (hB : B.length = n) (h1 : ∀ v ∈ B, v.oneCell' = true) (hi : (Tryz.prog.info? ty).map (·.size) = some n)
    (hZ2 : Z2.length = n2) (hB2 : B2.length = n2) (h12 : ∀ v ∈ B2, v.oneCell' = true) (hi2 : (Tryz.prog.info? ty2).map (·.size) = some n2) {q q2 : Nat} (hq : q ≠ 0) (hq2 : q2 ≠ 0) :
    ∃ W1 W2 c', ((w.alloc (.cells Z.toArray ty)).alloc (.cells Z2.toArray ty2)).setCells w.heap.size 0 B = W1 ∧ W1.setCells (w.heap.size + 1) 0 B2 = W2 ∧ At c' W2 w.heap.size q B ∧ At c' W2 (w.heap.size + 1) q2 B2 ∧ Ok c' W2 ∧ Step No c w c' W2 ∧
      ((w.alloc (.cells Z.toArray ty)).alloc (.cells Z2.toArray ty2)).there w.heap.size 0 B.toArray.size ∧ (Tryz.prog.info? ty).map (·.size) = some B.toArray.size ∧ B.toArray.all (·.oneCell') = true ∧
      W1.there (w.heap.size + 1) 0 B2.toArray.size ∧ (Tryz.prog.info? ty2).map (·.size) = some B2.toArray.size ∧ B2.toArray.all (·.oneCell') = true := by
  obtain ⟨a, o, s⟩ := newAt hok Z ty q
  obtain ⟨a2, o2, s2⟩ := newAt o Z2 ty2 q2
  rw [World.size_alloc] at a2 o2 s2
  have a' := a.kn s2
  obtain ⟨_, a3⟩ := a'.st o2 hq (ty := ty) (us := B) (by rw [hB, hZ]) (by rw [hi, hB]) h1
  have b3 := a2.off w.heap.size 0 B (by omega)
  have o3 := Ok.setCells (b := w.heap.size) B 0 _ o2
  obtain ⟨_, b4⟩ := b3.st o3 hq2 (ty := ty2) (us := B2) (by rw [hB2, hZ2]) (by rw [hi2, hB2]) h12
  have a4 := a3.off (w.heap.size + 1) 0 B2 (by omega)
  refine ⟨_, _, _, rfl, rfl, a4, b4, Ok.setCells _ _ _ o3, Step.setCells (.inl (by omega)) _ _ _ (Step.setCells (.inl (Nat.le_refl _)) _ _ _ (s.trans s2)), a'.there o2 hq (by simp [hB, hZ]), by rw [hi]; simp [hB], all_oneCell_toArray h1, b3.there o3 hq2 (by simp [hB2, hZ2]), by rw [hi2]; simp [hB2], all_oneCell_toArray h12⟩

set_option maxRecDepth 100000 in
set_option maxHeartbeats 3200000 in
theorem reply_any (hok : Ok c w) {s : Srv} {k : Nat} {vc vo vm : Value} (hs : s.At c k w vc vo vm) (nth : Int) {bs : List UInt8} {kx : Nat} {v : Value} (hv : Sl TByte c kx 0 w v bs)
    {k1 e0 e1 : Int} {PM : List Value → Prop} (D : Decodes bs k1 e0 e1 PM) {id h : Int} (hask : k1 = 1 → (∀ M, PM M → M = msgA 1 id h) ∧ idB id = true ∧ heightB h = true) (ky : Nat) :
    Calls Tryz.prog 10 #[.agg #[vc, vo, vm, .int .i64 s.delay, .int .i64 s.slow], v, .int .i64 nth] w fun r w' =>
      ∃ x, r = .returned (.tuple #[x, .int .i64 (waitT s nth (replyT s nth k1 e0 e1 id h)), .bool (isT (replyT s nth k1 e0 e1 id h))]) ∧ ∃ c', Sl TByte c' ky 0 w' x (replyT s nth k1 e0 e1 id h) ∧ Step No c w c' w' ∧ Ok c' w' := by
  obtain ⟨q, hq, hqc⟩ := hok.top (k + kx)
  have hq0 : q ≠ 0 := by omega
  obtain ⟨vca, vcc, rfl, _⟩ := hs.chain.form
  obtain ⟨voa, voc, rfl, _⟩ := hs.other.form
  obtain ⟨vma, vmc, rfl, _⟩ := hs.moods.form
  obtain ⟨va, vn, rfl, _⟩ := hv.form
  have a0 := At.new0 hok [.slice vca s.chain.length vcc, .slice voa s.other.length voc, .slice vma s.moods.length vmc, .int .i64 s.delay, .int .i64 s.slow] 25
  have s0 : Step No c w c (w.alloc (.cells #[.slice vca s.chain.length vcc, .slice voa s.other.length voc, .slice vma s.moods.length vmc, .int .i64 s.delay, .int .i64 s.slow] 25)) := Step.refl.alloc _
  have o0 := hok.alloc (.cells #[.slice vca s.chain.length vcc, .slice voa s.other.length voc, .slice vma s.moods.length vmc, .int .i64 s.delay, .int .i64 s.slow] 25)
  have MD := mood_any o0 (hs.kn s0) nth
  have X := Lib.hid (And.intro (hs.kn s0) (And.intro a0 (And.intro (hv.kn s0) (And.intro s0 (And.intro D (And.intro hask hqc))))))
  obtain ⟨bx, hbx⟩ : ∃ b, w.heap.size = b := ⟨_, rfl⟩
  rw [hbx] at X
  obtain ⟨cl, hcl⟩ : ∃ n, s.chain.length = n := ⟨_, rfl⟩
  obtain ⟨ol, hol⟩ : ∃ n, s.other.length = n := ⟨_, rfl⟩
  obtain ⟨ml, hml⟩ : ∃ n, s.moods.length = n := ⟨_, rfl⟩
  obtain ⟨bl, hbl⟩ : ∃ n, bs.length = n := ⟨_, rfl⟩
  obtain ⟨DE, hDE⟩ : ∃ n, s.delay = n := ⟨_, rfl⟩
  obtain ⟨SL, hSL⟩ : ∃ n, s.slow = n := ⟨_, rfl⟩
  rw [hcl, hol, hml, hDE, hSL] at X MD ⊢
  rw [hbl] at X ⊢
  obtain ⟨W0, hW0⟩ : ∃ W, w.alloc (.cells #[.slice vca cl vcc, .slice voa ol voc, .slice vma ml vmc, .int .i64 DE, .int .i64 SL] 25) = W := ⟨_, rfl⟩
  rw [hW0] at X MD
  have y0 := X.out.2.1.get (i := 0) rfl
  have y1 := X.out.2.1.get (i := 1) rfl
  have y2 := X.out.2.1.get (i := 2) rfl
  have y3 := X.out.2.1.get (i := 3) rfl
  have y4 := X.out.2.1.get (i := 4) rfl
  obtain ⟨R, hR⟩ : ∃ R, replyT s nth k1 e0 e1 id h = R := ⟨_, rfl⟩
  obtain ⟨m, hm⟩ : ∃ m, moodS s nth = m := ⟨_, rfl⟩
  have hRR : R = if ((m == 0) || !(e0 == 0 && e1 == 0) || !(k1 == 1)) = true then [] else outS m s h id := by rw [← hR, ← hm]; rfl
  have hwt : waitT s nth R = if R = [] then 0 else tickS m s := by unfold waitT; rw [hm]
  obtain ⟨wt, hwt2⟩ : ∃ x, waitT s nth R = x := ⟨_, rfl⟩
  obtain ⟨it, hit⟩ : ∃ x, isT R = x := ⟨_, rfl⟩
  rw [hR, hwt2, hit]
  have HR := Lib.hid (And.intro hRR (And.intro (hwt2.symm.trans hwt) (And.intro hit.symm (fun hm0 : m ≠ 0 => by have := moodS_pos (s := s) (nth := nth) (by rw [hm]; exact hm0); rw [hm] at this; exact this))))
  rw [hm] at MD
  have HN := Lib.hid (And.intro hcl (And.intro hol (And.intro hml (And.intro hDE (And.intro hSL hbl)))))
  clear a0 s0 o0 hs hv D hask hok hqc hcl hol hml hDE hSL hbl hR hm hRR hwt hwt2 hit
  go_enter Tryz.func10, Tryz.ntmps10
  go_wp2_with fail
  (try rw [hW0])
  (try rw [hbx])
  with_reducible refine MD.mono ?_
  rintro e w1 ⟨rfl, c1, s1, o1⟩
  have DC := X.out.2.2.2.2.1.2 c1 w1 kx _ o1 (X.out.2.2.1.kn s1)
  have hPM := Lib.hid X.out.2.2.2.2.1.1
  have X2 := Lib.hid (And.intro (X.out.1.kn s1) (And.intro (X.out.2.1.kn s1) (And.intro (X.out.2.2.2.1.trans s1) (And.intro X.out.2.2.2.2.2.1 X.out.2.2.2.2.2.2))))
  clear MD X s1 o1 y0 y1 y2 y3 y4
  go_wp2_with fail
  with_reducible refine DC.mono ?_
  rintro e w2 ⟨M, pm, rfl, c2, s2, o2⟩
  obtain ⟨hml, hm1, hm0⟩ := hPM.out M pm
  obtain ⟨ZM, hZM, zM⟩ := zero_msg
  obtain ⟨ZF, hZF, zF⟩ := zero_fault
  obtain ⟨W3, W4, c4, hW3, hW4, am, af, o4, s4, t1, t2, t3, t4, t5, t6⟩ := stnew2 o2 hZM hml hm1 info_msg hZF (B2 := [.int .i64 e0, .int .i64 e1]) rfl (by intro v hv; simp only [List.mem_cons, List.not_mem_nil, or_false] at hv; rcases hv with rfl | rfl <;> rfl) info_fault2 (q := q + 1) (q2 := q + 2) (Nat.succ_ne_zero q) (Nat.succ_ne_zero _)
  obtain ⟨mb, hmb⟩ : ∃ b, w2.heap.size = b := ⟨_, rfl⟩
  rw [hmb] at hW3 hW4 am af t1 t4
  have s24 := s2.trans s4
  have X3 := Lib.hid (And.intro (X2.out.1.kn s24) (And.intro (X2.out.2.1.kn s24) (And.intro (X2.out.2.2.1.trans s24) (And.intro X2.out.2.2.2.1 (And.intro X2.out.2.2.2.2 (And.intro am (And.intro af (And.intro o4 (And.intro pm hm0)))))))))
  have yk := am.get hm0
  have yf0 := af.get (i := 0) rfl
  have yf1 := af.get (i := 1) rfl
  have TT := Lib.hid (And.intro t1 (And.intro t2 (And.intro t3 (And.intro t4 (And.intro t5 (And.intro t6 (And.intro zM (And.intro zF (And.intro hW3 hW4)))))))))
  clear DC X2 s2 o2 hml hm1 hm0 hZM hZF zM zF hW3 hW4 am af o4 s4 t1 t2 t3 t4 t5 t6 s24 pm
  have hno : ((m == 0) || !(e0 == 0 && e1 == 0) || !(k1 == 1)) = true → R = [] ∧ wt = 0 ∧ it = false := fun hb => by
    have h1 : R = [] := by have := HR.out.1; rw [if_pos hb] at this; exact this
    refine ⟨h1, ?_, ?_⟩
    · rw [HR.out.2.1, if_pos h1]
    · rw [HR.out.2.2.1, h1]; rfl
  have NO : ∀ {R' : Prop}, (R = [] ∧ wt = 0 ∧ it = false → R') → ((m == 0) || !(e0 == 0 && e1 == 0) || !(k1 == 1)) = true → R' := fun f hb => f (hno hb)
  clear hno
  have HNO := Lib.hid (fun (hb : ((m == 0) || !(e0 == 0 && e1 == 0) || !(k1 == 1)) = true) => (NO (fun x => x) hb : R = [] ∧ wt = 0 ∧ it = false))
  clear NO
  by_cases hm : m = 0
  · have F := Lib.hid (HNO.out (by rw [hm]; rfl))
    clear HNO
    subst hm
    go_wp2_with (first | (refine wpList_alloc_zero rfl (some 10) rfl 72 rfl TT.out.2.2.2.2.2.2.1 ?_; rw [hmb]) | (refine wpList_alloc_zero rfl (some 11) rfl 74 rfl TT.out.2.2.2.2.2.2.2.1 ?_; rw [World.size_alloc, hmb]) | (refine wpList_store_mid rfl 72 _ _ rfl mb 0 M.toArray rfl rfl TT.out.1 TT.out.2.1 TT.out.2.2.1 ?_; rw [TT.out.2.2.2.2.2.2.2.2.1]) | (refine wpList_store_mid rfl 74 _ _ rfl (mb + 1) 0 _ rfl rfl TT.out.2.2.2.1 TT.out.2.2.2.2.1 TT.out.2.2.2.2.2.1 ?_; rw [TT.out.2.2.2.2.2.2.2.2.2]))
    go_ret3
    rw [F.out.1, F.out.2.1, F.out.2.2]
    exact ⟨_, rfl, c4, Sl.nil _ _ _ _ _, X3.out.2.2.1, X3.out.2.2.2.2.2.2.2.1⟩
  have hmb0 : (m == 0) = false := by simpa using hm
  by_cases he0 : e0 = 0
  · by_cases he1 : e1 = 0
    · by_cases hk1 : k1 = 1
      · clear HNO
        subst he0 he1 hk1
        have hne : ¬ ((m == 0) || !((0 : Int) == 0 && (0 : Int) == 0) || !((1 : Int) == 1)) = true := by simp [hm]
        obtain ⟨hck, hm1, hm9⟩ := HR.out.2.2.2 hm
        obtain ⟨hMM, hid, hh⟩ := X3.out.2.2.2.1 rfl
        have hMe := hMM M X3.out.2.2.2.2.2.2.2.2.1
        have hO : R = outS m s h id := by have := HR.out.1; rw [if_neg hne] at this; exact this
        have z1 : W4.cell? ⟨mb, 1, none⟩ = some (.int .i64 id) := by have := X3.out.2.2.2.2.2.1; rw [hMe] at this; exact this.get (i := 1) rfl
        have z2 : W4.cell? ⟨mb, 2, none⟩ = some (.int .i64 h) := by have := X3.out.2.2.2.2.2.1; rw [hMe] at this; exact this.get (i := 2) rfl
        have y0 := X3.out.2.1.get (i := 0) rfl
        have y1 := X3.out.2.1.get (i := 1) rfl
        have y2 := X3.out.2.1.get (i := 2) rfl
        have y3 := X3.out.2.1.get (i := 3) rfl
        have y4 := X3.out.2.1.get (i := 4) rfl
        obtain ⟨ad, od, sd⟩ := newAt X3.out.2.2.2.2.2.2.2.1 [.slice vca cl vcc, .slice voa ol voc, .slice vma ml vmc, .int .i64 DE, .int .i64 SL, .int .i64 id, .int .i64 h, .int .i64 DE] 79 q
        obtain ⟨db, hdb⟩ : ∃ b, W4.heap.size = b := ⟨_, rfl⟩
        obtain ⟨W5, hW5⟩ : ∃ W, W4.alloc (.cells #[.slice vca cl vcc, .slice voa ol voc, .slice vma ml vmc, .int .i64 DE, .int .i64 SL, .int .i64 id, .int .i64 h, .int .i64 DE] 79) = W := ⟨_, rfl⟩
        rw [hdb] at ad od sd
        rw [hW5] at ad od sd
        have WY := ways_any od db
        have hHR := Lib.hid (And.intro hO (And.intro hck (And.intro hid (And.intro hh (And.intro hm1 hm9)))))
        have X5 := Lib.hid (And.intro ad (And.intro (X3.out.1.kn sd) (And.intro (X3.out.2.2.1.trans sd) X3.out.2.2.2.2.1)))
        have hix : ∀ W, (Instr.index 81 (.agg (waysC db).toArray) (.int .i64 m)).run Tryz.prog W = .ok (.func (.func (fnW m)) #[.pointer (some ⟨db, 0, none⟩)] #[]) W := fun W => index_ways hm1 hm9 db W
        have hen := fun args W => fnW_enters hm1 hm9 args W
        obtain ⟨f, hf⟩ : ∃ f, fnW m = f := ⟨_, rfl⟩
        rw [hf] at hix hen
        have HF := Lib.hid hf
        clear hne hck hm1 hm9 hMM hMe hid hh hO ad od sd X3 hf
        go_wp2_with (first | (refine wpList_alloc_zero rfl (some 10) rfl 72 rfl TT.out.2.2.2.2.2.2.1 ?_; rw [hmb]) | (refine wpList_alloc_zero rfl (some 11) rfl 74 rfl TT.out.2.2.2.2.2.2.2.1 ?_; rw [World.size_alloc, hmb]) | (refine wpList_store_mid rfl 72 _ _ rfl mb 0 M.toArray rfl rfl TT.out.1 TT.out.2.1 TT.out.2.2.1 ?_; rw [TT.out.2.2.2.2.2.2.2.2.1]) | (refine wpList_store_mid rfl 74 _ _ rfl (mb + 1) 0 _ rfl rfl TT.out.2.2.2.1 TT.out.2.2.2.2.1 TT.out.2.2.2.2.2.1 ?_; rw [TT.out.2.2.2.2.2.2.2.2.2]))
        (try rw [hdb])
        (try rw [hW5])
        with_reducible refine WY.mono ?_
        rintro e w6 ⟨rfl, c6, s6, o6⟩
        obtain ⟨hO, hck, hid, hh, hm1, hm9⟩ := hHR.out
        have ad6 : At c6 w6 db q (deskC s (.slice vca cl vcc) (.slice voa ol voc) (.slice vma ml vmc) id h s.delay) := by
          have := X5.out.1.kn s6
          unfold deskC
          rw [HN.out.2.2.2.1, HN.out.2.2.2.2.1]
          exact this
        have WA := way_any o6 (show ¬ k = q by omega) hq0 (X5.out.2.1.kn s6) hid hh ad6 hck hm1 hm9 ky
        rw [HF.out] at WA
        obtain ⟨L, hL⟩ : ∃ L, outS m s h id = L := ⟨_, rfl⟩
        rw [hL] at WA hO
        obtain ⟨tk, htk⟩ : ∃ t, tickS m s = t := ⟨_, rfl⟩
        rw [htk] at WA
        have X6 := Lib.hid (And.intro hO (And.intro (X5.out.2.2.1.trans s6) (And.intro X5.out.2.2.2 htk)))
        clear WY s6 o6 hO hck hid hh hm1 hm9 ad6 hL htk X5
        go_wp2_with fail
        with_reducible refine WA.mono ?_
        rintro e w7 ⟨x, rfl, c7, sl7, a7, s7, o7⟩
        obtain ⟨xa, xn, rfl, _⟩ := sl7.form
        have hqc := X6.out.2.2.1
        have sAll : Step No c w c7 w7 := ((X6.out.2.1.ofNo (K := One q)).trans s7).drop fun b _ (e : c b = q) => by have := hqc b; omega
        have y7 := a7.get (i := 7) rfl
        have KK : (fun W : World => W.cell? ⟨db, 7, none⟩ = some (.int .i64 tk)) w7.drew := (a7.kn (Step.rf.drewN (K := No) 1)).get (i := 7) rfl
        have X7 := Lib.hid (And.intro sl7 (And.intro sAll (And.intro o7 (And.intro X6.out.1 X6.out.2.2.2))))
        clear WA s7 o7 a7 sl7 sAll hqc X6 hix hen
        by_cases hl : L = []
        · have F := Lib.hid (show R = [] ∧ wt = 0 ∧ it = false by
            have h1 : R = [] := by rw [X7.out.2.2.2.1, hl]
            exact ⟨h1, by rw [HR.out.2.1, if_pos h1], by rw [HR.out.2.2.1, h1]; rfl⟩)
          subst hl
          go_wp2_with fail
          go_ret3
          rw [F.out.1, F.out.2.1, F.out.2.2]
          exact ⟨_, rfl, c7, Sl.nil _ _ _ _ _, X7.out.2.1, X7.out.2.2.1⟩
        · have F := Lib.hid (show R = L ∧ wt = tk ∧ it = true by
            have h1 : R = L := X7.out.2.2.2.1
            have h2 : R ≠ [] := by rw [h1]; exact hl
            exact ⟨h1, by rw [HR.out.2.1, if_neg h2]; exact X7.out.2.2.2.2, by rw [HR.out.2.2.1]; unfold isT; rw [if_neg h2]⟩)
          have hn0 : ((L.length : Int) == 0) = false := by
            have : L.length ≠ 0 := fun h => hl (List.eq_nil_of_length_eq_zero h)
            simpa using this
          have hn1 : L.length ≠ 0 := fun h => hl (List.eq_nil_of_length_eq_zero h)
          clear hl
          go_wp2_with fail
          refine region_planM (fun W => W.cell? ⟨db, 7, none⟩ = some (.int .i64 tk)) (fun _ => true) (by kernel_rfl) ?_
          refine wpAnyM.takeT (i := 0) (v := _) (some 49) rfl rfl (by kernel_rfl) (by kernel_rfl) (by kernel_rfl) (by kernel_rfl) (by kernel_rfl) (fun _ _ _ h => h) (Or.inl ⟨by rfl, fun W hW => by first | (obtain q0 := hW; go_simp <;> rfl) | (obtain q0 := hW; go_simp; done)⟩) KK ?_
          (try simp only [Act.put, List.setIfInBounds_toArray, List.set_cons_zero, List.set_cons_succ])
          refine wpAnyM.takeT (i := 1) (v := _) (some 50) rfl rfl (by kernel_rfl) (by kernel_rfl) (by kernel_rfl) (by kernel_rfl) (by kernel_rfl) (fun _ _ _ h => h) (Or.inl ⟨by rfl, fun W hW => by first | (obtain q0 := hW; go_simp <;> rfl) | (obtain q0 := hW; go_simp; done)⟩) KK ?_
          (try simp only [Act.put, List.setIfInBounds_toArray, List.set_cons_zero, List.set_cons_succ])
          refine wpAnyM.takeT (i := 2) (v := _) (some 51) rfl rfl (by kernel_rfl) (by kernel_rfl) (by kernel_rfl) (by kernel_rfl) (by kernel_rfl) (fun _ _ _ h => h) (Or.inl ⟨by rfl, fun W hW => by first | (obtain q0 := hW; go_simp <;> rfl) | (obtain q0 := hW; go_simp; done)⟩) KK ?_
          (try simp only [Act.put, List.setIfInBounds_toArray, List.set_cons_zero, List.set_cons_succ])
          refine wpAnyM.takeT (i := 3) (v := _) (some 52) rfl rfl (by kernel_rfl) (by kernel_rfl) (by kernel_rfl) (by kernel_rfl) (by kernel_rfl) (fun _ _ _ h => h) (Or.inl ⟨by rfl, fun W hW => by first | (obtain q0 := hW; go_simp <;> rfl) | (obtain q0 := hW; go_simp; done)⟩) KK ?_
          (try simp only [Act.put, List.setIfInBounds_toArray, List.set_cons_zero, List.set_cons_succ])
          refine wpAnyM.takeT (i := 4) (v := _) (some 53) rfl rfl (by kernel_rfl) (by kernel_rfl) (by kernel_rfl) (by kernel_rfl) (by kernel_rfl) (fun _ _ _ h => h) (Or.inl ⟨by rfl, fun W hW => by first | (obtain q0 := hW; go_simp <;> rfl) | (obtain q0 := hW; go_simp; done)⟩) KK ?_
          (try simp only [Act.put, List.setIfInBounds_toArray, List.set_cons_zero, List.set_cons_succ])
          refine wpAnyM.one (i := 5) (by kernel_rfl) rfl (fun KQ hK => ?_)
          go_simp
          refine hK.out _ _ (fun _ => KK) ?_
          clear hK KQ
          (try simp only [Act.put, List.setIfInBounds_toArray, List.set_cons_zero, List.set_cons_succ])
          refine wpAnyM.one (i := 6) (by kernel_rfl) rfl (fun KQ hK => ?_)
          go_simp
          refine hK.out _ _ (fun _ => KK) ?_
          clear hK KQ
          (try simp only [Act.put, List.setIfInBounds_toArray, List.set_cons_zero, List.set_cons_succ])
          refine wpAnyM.one (i := 7) (by kernel_rfl) rfl (fun KQ hK => ?_)
          go_simp
          refine hK.out _ _ (fun _ => KK) ?_
          clear hK KQ
          (try simp only [Act.put, List.setIfInBounds_toArray, List.set_cons_zero, List.set_cons_succ])
          refine wpAnyM.done (by kernel_rfl) ?_ _
          go_wp2_with fail
          go_ret3
          rw [F.out.1, F.out.2.1, F.out.2.2]
          exact ⟨_, rfl, c7, X7.out.1.kn (Step.rf.drewN 1), X7.out.2.1.drewN 1, X7.out.2.2.1.drewN 1⟩
      · have F := Lib.hid (HNO.out (by simp [hk1]))
        clear HNO
        subst he0 he1
        have hkb : (k1 != 1) = true := by simpa using hk1
        go_wp2_with (first | (refine wpList_alloc_zero rfl (some 10) rfl 72 rfl TT.out.2.2.2.2.2.2.1 ?_; rw [hmb]) | (refine wpList_alloc_zero rfl (some 11) rfl 74 rfl TT.out.2.2.2.2.2.2.2.1 ?_; rw [World.size_alloc, hmb]) | (refine wpList_store_mid rfl 72 _ _ rfl mb 0 M.toArray rfl rfl TT.out.1 TT.out.2.1 TT.out.2.2.1 ?_; rw [TT.out.2.2.2.2.2.2.2.2.1]) | (refine wpList_store_mid rfl 74 _ _ rfl (mb + 1) 0 _ rfl rfl TT.out.2.2.2.1 TT.out.2.2.2.2.1 TT.out.2.2.2.2.2.1 ?_; rw [TT.out.2.2.2.2.2.2.2.2.2]))
        go_ret3
        rw [F.out.1, F.out.2.1, F.out.2.2]
        exact ⟨_, rfl, c4, Sl.nil _ _ _ _ _, X3.out.2.2.1, X3.out.2.2.2.2.2.2.2.1⟩
    · have F := Lib.hid (HNO.out (by simp [he1]))
      clear HNO
      subst he0
      have heb : (e1 == 0) = false := by simpa using he1
      go_wp2_with (first | (refine wpList_alloc_zero rfl (some 10) rfl 72 rfl TT.out.2.2.2.2.2.2.1 ?_; rw [hmb]) | (refine wpList_alloc_zero rfl (some 11) rfl 74 rfl TT.out.2.2.2.2.2.2.2.1 ?_; rw [World.size_alloc, hmb]) | (refine wpList_store_mid rfl 72 _ _ rfl mb 0 M.toArray rfl rfl TT.out.1 TT.out.2.1 TT.out.2.2.1 ?_; rw [TT.out.2.2.2.2.2.2.2.2.1]) | (refine wpList_store_mid rfl 74 _ _ rfl (mb + 1) 0 _ rfl rfl TT.out.2.2.2.1 TT.out.2.2.2.2.1 TT.out.2.2.2.2.2.1 ?_; rw [TT.out.2.2.2.2.2.2.2.2.2]))
      go_ret3
      rw [F.out.1, F.out.2.1, F.out.2.2]
      exact ⟨_, rfl, c4, Sl.nil _ _ _ _ _, X3.out.2.2.1, X3.out.2.2.2.2.2.2.2.1⟩
  · have F := Lib.hid (HNO.out (by simp [he0]))
    clear HNO
    have heb : (e0 == 0) = false := by simpa using he0
    go_wp2_with (first | (refine wpList_alloc_zero rfl (some 10) rfl 72 rfl TT.out.2.2.2.2.2.2.1 ?_; rw [hmb]) | (refine wpList_alloc_zero rfl (some 11) rfl 74 rfl TT.out.2.2.2.2.2.2.2.1 ?_; rw [World.size_alloc, hmb]) | (refine wpList_store_mid rfl 72 _ _ rfl mb 0 M.toArray rfl rfl TT.out.1 TT.out.2.1 TT.out.2.2.1 ?_; rw [TT.out.2.2.2.2.2.2.2.2.1]) | (refine wpList_store_mid rfl 74 _ _ rfl (mb + 1) 0 _ rfl rfl TT.out.2.2.2.1 TT.out.2.2.2.2.1 TT.out.2.2.2.2.2.1 ?_; rw [TT.out.2.2.2.2.2.2.2.2.2]))
    go_ret3
    rw [F.out.1, F.out.2.1, F.out.2.2]
    exact ⟨_, rfl, c4, Sl.nil _ _ _ _ _, X3.out.2.2.1, X3.out.2.2.2.2.2.2.2.1⟩
end
end Go.Proofs.YtgcobbapaaihiaaGreat

set_option linter.unusedVariables false
set_option linter.unusedSimpArgs false
namespace Go.Proofs.YtgcobbapaaihiaaGreat
open Go.RowKit

section
variable {c : Col} {w : World}

set_option maxRecDepth 100000 in
set_option maxHeartbeats 1600000 in
theorem three_any (hok : Ok c w) :
    Calls Tryz.prog 23 #[] w fun r w' => ∃ v sv : Value, r = .returned (.tuple #[v, sv]) ∧ ∃ c' L, FitL 3 L ∧ Sl TBlo c' 0 0 w' v L ∧ Step No c w c' w' ∧ Ok c' w' := by
  obtain ⟨x1, x2, x3⟩ := put_one (T := TVal) (x := ⟨[1, 0, 0, 0], 3⟩) (vs := [.int .u8 1, .int .u8 0, .int .u8 0, .int .u8 0, .int .i64 3]) (k2 := 0) hok ⟨rfl, rfl, ⟨by decide, by decide⟩⟩ 93
  have BU := build_any x1 x2
  have X := Lib.hid x3
  clear x1 x2 x3 hok
  go_enter Tryz.func23, Tryz.ntmps23
  go_wp2_with fail
  refine BU.mono ?_
  rintro e w1 ⟨v, sv, rfl, c1, L, hL, sl, s1, o1⟩
  have F := Lib.hid (And.intro hL (And.intro sl (And.intro (X.out.trans s1) o1)))
  clear BU hL sl s1 o1
  go_wp2_with fail
  go_ret2
  exact ⟨_, _, rfl, c1, L, F.out⟩

set_option maxRecDepth 100000 in
set_option maxHeartbeats 1600000 in
theorem askL_any (hok : Ok c w) (id h : Int) (hid : idB id = true) (hh : heightB h = true) (kx : Nat) :
    Calls Tryz.prog 25 #[.int .i64 id, .int .i64 h] w fun r w' => ∃ v, r = .returned v ∧ ∃ c', Sl TByte c' kx 0 w' v (encA id h) ∧ Step No c w c' w' ∧ Ok c' w' := by
  have AK := ask_ok hok id h hid hh kx
  clear hok hid hh
  go_enter Tryz.func25, Tryz.ntmps25
  go_wp2_with fail
  refine AK.mono ?_
  rintro e w1 ⟨v, rfl, c1, sl, s1, o1⟩
  have F := Lib.hid (And.intro sl (And.intro s1 o1))
  clear AK sl s1 o1
  go_wp2_with fail
  go_ret
  exact ⟨_, rfl, c1, F.out⟩
end
end Go.Proofs.YtgcobbapaaihiaaGreat
