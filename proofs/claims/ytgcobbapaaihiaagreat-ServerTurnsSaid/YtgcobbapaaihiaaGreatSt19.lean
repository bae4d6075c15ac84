/- ServerTurns, part 19: lemmas, each with its own conditions. -/
import Derived.Test.YtgcobbapaaihiaaGreatSt02
import Derived.Test.YtgcobbapaaihiaaGreatSt17
import Derived.Test.YtgcobbapaaihiaaGreatSt18
set_option linter.unusedVariables false
set_option linter.unusedSimpArgs false
namespace Go.Proofs.YtgcobbapaaihiaaGreat
open Go.RowKit

theorem moodS_pos {s : Srv} {nth : Int} (h : moodS s nth ≠ 0) : checkS s = 0 ∧ 0 < moodS s nth ∧ moodS s nth < 10 := by
  unfold moodS at h ⊢
  split at h
  · exact absurd rfl h
  · next hn =>
    rw [if_neg hn]
    have hc : checkS s = 0 := by
      rcases Decidable.em (checkS s = 0) with h' | h'
      · exact h'
      · exact absurd (.inl h') hn
    refine ⟨hc, ?_⟩
    split at h
    · next h0 => rw [if_pos h0]; omega
    · next h0 =>
      rw [if_neg h0]
      generalize (nth % (s.moods.length : Int)).toNat = i at h ⊢
      rw [List.getD_eq_getElem?_getD] at h ⊢
      cases hg : s.moods[i]? with
      | none => rw [hg] at h; exact absurd rfl h
      | some x =>
        simp only [Option.getD_some]
        have ha : ¬ s.moods.any badM = true := by
          unfold checkS at hc
          split at hc
          · cases hc
          split at hc
          · cases hc
          split at hc
          · cases hc
          split at hc
          · cases hc
          · assumption
        have hx : ¬ badM x = true := fun hb => ha (List.any_eq_true.2 ⟨x, List.mem_of_getElem? hg, hb⟩)
        simp only [badM, Bool.or_eq_true, decide_eq_true_eq, not_or] at hx
        omega

/-- What msg.Decode tells of bytes: a message of a kind, a fault. -/
def Decodes (bs : List UInt8) (k1 e0 e1 : Int) (PM : List Value → Prop) : Prop :=
  (∀ M, PM M → M.length = 170 ∧ (∀ v ∈ M, v.oneCell' = true) ∧ M[0]? = some (.int .i64 k1)) ∧
  ∀ (c : Col) (w : World) (kx : Nat) (v : Value), Ok c w → Sl TByte c kx 0 w v bs →
    Calls Tryz.prog 33 #[v] w fun r w' => ∃ M, PM M ∧ r = .returned (.tuple #[.agg M.toArray, .agg #[.int .i64 e0, .int .i64 e1]]) ∧ ∃ c', Step No c w c' w' ∧ Ok c' w'

/-- What Reply tells. -/
def noB (s : Srv) (nth k1 e0 e1 : Int) : Bool := (moodS s nth == 0) || !(e0 == 0 && e1 == 0) || !(k1 == 1)
def replyT (s : Srv) (nth k1 e0 e1 id h : Int) : List UInt8 := if noB s nth k1 e0 e1 = true then [] else outS (moodS s nth) s h id
def waitT (s : Srv) (nth : Int) (l : List UInt8) : Int := if l = [] then 0 else tickS (moodS s nth) s
def isT (l : List UInt8) : Bool := if l = [] then false else true

theorem zero_fault : ∃ Z, Z.length = 2 ∧ zeroIs Tryz.prog 74 Z := ⟨zeroL 74, by kernel_rfl, by unfold zeroIs; kernel_rfl⟩
theorem zero_msg : ∃ Z, Z.length = 170 ∧ zeroIs Tryz.prog 72 Z := ⟨zeroL 72, by kernel_rfl, by unfold zeroIs; kernel_rfl⟩
theorem info_fault2 : (Tryz.prog.info? 74).map (·.size) = some 2 := by kernel_rfl

section
variable {c : Col} {w : World}

/-- Two new blocks, both written. -/
theorem stnew2 (hok : Ok c w) {ty ty2 : TypeId} {Z B Z2 B2 : List Value} {n n2 : Nat} (hZ : Z.length = n) (hB : B.length = n) (h1 : ∀ v ∈ B, v.oneCell' = true) (hi : (Tryz.prog.info? ty).map (·.size) = some n)
    (hZ2 : Z2.length = n2) (hB2 : B2.length = n2) (h12 : ∀ v ∈ B2, v.oneCell' = true) (hi2 : (Tryz.prog.info? ty2).map (·.size) = some n2) {q q2 : Nat} (hq : q ≠ 0) (hq2 : q2 ≠ 0) :
    ∃ W1 W2 c', ((w.alloc (.cells Z.toArray ty)).alloc (.cells Z2.toArray ty2)).setCells w.heap.size 0 B = W1 ∧ W1.setCells (w.heap.size + 1) 0 B2 = W2 ∧ At c' W2 w.heap.size q B ∧ At c' W2 (w.heap.size + 1) q2 B2 ∧ Ok c' W2 ∧ Step No c w c' W2 ∧
      ((w.alloc (.cells Z.toArray ty)).alloc (.cells Z2.toArray ty2)).there w.heap.size 0 B.toArray.size ∧ (Tryz.prog.info? ty).map (·.size) = some B.toArray.size ∧ B.toArray.all (·.oneCell') = true ∧
      W1.there (w.heap.size + 1) 0 B2.toArray.size ∧ (Tryz.prog.info? ty2).map (·.size) = some B2.toArray.size ∧ B2.toArray.all (·.oneCell') = true := by
  obtain ⟨a, o, s⟩ := newAt hok Z ty q
  obtain ⟨a2, o2, s2⟩ := newAt o Z2 ty2 q2
  rw [World.size_alloc] at a2 o2 s2
  have a' := a.kn s2
  obtain ⟨_, a3⟩ := a'.st o2 hq (ty := ty) (us := B) (by rw [hB, hZ]) (by rw [hi, hB]) h1
  have b3 := a2.off w.heap.size 0 B (by omega)
  have o3 := Ok.setCells (b := w.heap.size) B 0 _ o2
  obtain ⟨_, b4⟩ := b3.st o3 hq2 (ty := ty2) (us := B2) (by rw [hB2, hZ2]) (by rw [hi2, hB2]) h12
  have a4 := a3.off (w.heap.size + 1) 0 B2 (by omega)
  refine ⟨_, _, _, rfl, rfl, a4, b4, Ok.setCells _ _ _ o3, Step.setCells (.inl (by omega)) _ _ _ (Step.setCells (.inl (Nat.le_refl _)) _ _ _ (s.trans s2)), a'.there o2 hq (by simp [hB, hZ]), by rw [hi]; simp [hB], all_oneCell_toArray h1, b3.there o3 hq2 (by simp [hB2, hZ2]), by rw [hi2]; simp [hB2], all_oneCell_toArray h12⟩

set_option maxRecDepth 100000 in
set_option maxHeartbeats 3200000 in
theorem reply_any (hok : Ok c w) {s : Srv} {k : Nat} {vc vo vm : Value} (hs : s.At c k w vc vo vm) (nth : Int) {bs : List UInt8} {kx : Nat} {v : Value} (hv : Sl TByte c kx 0 w v bs)
    {k1 e0 e1 : Int} {PM : List Value → Prop} (D : Decodes bs k1 e0 e1 PM) {id h : Int} (hask : k1 = 1 → (∀ M, PM M → M = msgA 1 id h) ∧ idB id = true ∧ heightB h = true) (ky : Nat) :
    Calls Tryz.prog 10 #[.agg #[vc, vo, vm, .int .i64 s.delay, .int .i64 s.slow], v, .int .i64 nth] w fun r w' =>
      ∃ x, r = .returned (.tuple #[x, .int .i64 (waitT s nth (replyT s nth k1 e0 e1 id h)), .bool (isT (replyT s nth k1 e0 e1 id h))]) ∧ ∃ c', Sl TByte c' ky 0 w' x (replyT s nth k1 e0 e1 id h) ∧ Step No c w c' w' ∧ Ok c' w' := by
  obtain ⟨q, hq, hqc⟩ := hok.top (k + kx)
  have hq0 : q ≠ 0 := by omega
  obtain ⟨vca, vcc, rfl, _⟩ := hs.chain.form
  obtain ⟨voa, voc, rfl, _⟩ := hs.other.form
  obtain ⟨vma, vmc, rfl, _⟩ := hs.moods.form
  obtain ⟨va, vn, rfl, _⟩ := hv.form
  have a0 := At.new0 hok [.slice vca s.chain.length vcc, .slice voa s.other.length voc, .slice vma s.moods.length vmc, .int .i64 s.delay, .int .i64 s.slow] 25
  have s0 : Step No c w c (w.alloc (.cells #[.slice vca s.chain.length vcc, .slice voa s.other.length voc, .slice vma s.moods.length vmc, .int .i64 s.delay, .int .i64 s.slow] 25)) := Step.refl.alloc _
  have o0 := hok.alloc (.cells #[.slice vca s.chain.length vcc, .slice voa s.other.length voc, .slice vma s.moods.length vmc, .int .i64 s.delay, .int .i64 s.slow] 25)
  have MD := mood_any o0 (hs.kn s0) nth
  have X := Lib.hid (And.intro (hs.kn s0) (And.intro a0 (And.intro (hv.kn s0) (And.intro s0 (And.intro D (And.intro hask hqc))))))
  obtain ⟨bx, hbx⟩ : ∃ b, w.heap.size = b := ⟨_, rfl⟩
  rw [hbx] at X
  obtain ⟨cl, hcl⟩ : ∃ n, s.chain.length = n := ⟨_, rfl⟩
  obtain ⟨ol, hol⟩ : ∃ n, s.other.length = n := ⟨_, rfl⟩
  obtain ⟨ml, hml⟩ : ∃ n, s.moods.length = n := ⟨_, rfl⟩
  obtain ⟨bl, hbl⟩ : ∃ n, bs.length = n := ⟨_, rfl⟩
  obtain ⟨DE, hDE⟩ : ∃ n, s.delay = n := ⟨_, rfl⟩
  obtain ⟨SL, hSL⟩ : ∃ n, s.slow = n := ⟨_, rfl⟩
  rw [hcl, hol, hml, hDE, hSL] at X MD ⊢
  rw [hbl] at X ⊢
  obtain ⟨W0, hW0⟩ : ∃ W, w.alloc (.cells #[.slice vca cl vcc, .slice voa ol voc, .slice vma ml vmc, .int .i64 DE, .int .i64 SL] 25) = W := ⟨_, rfl⟩
  rw [hW0] at X MD
  have y0 := X.out.2.1.get (i := 0) rfl
  have y1 := X.out.2.1.get (i := 1) rfl
  have y2 := X.out.2.1.get (i := 2) rfl
  have y3 := X.out.2.1.get (i := 3) rfl
  have y4 := X.out.2.1.get (i := 4) rfl
  obtain ⟨R, hR⟩ : ∃ R, replyT s nth k1 e0 e1 id h = R := ⟨_, rfl⟩
  obtain ⟨m, hm⟩ : ∃ m, moodS s nth = m := ⟨_, rfl⟩
  have hRR : R = if ((m == 0) || !(e0 == 0 && e1 == 0) || !(k1 == 1)) = true then [] else outS m s h id := by rw [← hR, ← hm]; rfl
  have hwt : waitT s nth R = if R = [] then 0 else tickS m s := by unfold waitT; rw [hm]
  obtain ⟨wt, hwt2⟩ : ∃ x, waitT s nth R = x := ⟨_, rfl⟩
  obtain ⟨it, hit⟩ : ∃ x, isT R = x := ⟨_, rfl⟩
  rw [hR, hwt2, hit]
  have HR := Lib.hid (And.intro hRR (And.intro (hwt2.symm.trans hwt) (And.intro hit.symm (fun hm0 : m ≠ 0 => by have := moodS_pos (s := s) (nth := nth) (by rw [hm]; exact hm0); rw [hm] at this; exact this))))
  rw [hm] at MD
  have HN := Lib.hid (And.intro hcl (And.intro hol (And.intro hml (And.intro hDE (And.intro hSL hbl)))))
  clear a0 s0 o0 hs hv D hask hok hqc hcl hol hml hDE hSL hbl hR hm hRR hwt hwt2 hit
  go_enter Tryz.func10, Tryz.ntmps10
  go_wp2_with fail
  (try rw [hW0])
  (try rw [hbx])
  with_reducible refine MD.mono ?_
  rintro e w1 ⟨rfl, c1, s1, o1⟩
  have DC := X.out.2.2.2.2.1.2 c1 w1 kx _ o1 (X.out.2.2.1.kn s1)
  have hPM := Lib.hid X.out.2.2.2.2.1.1
  have X2 := Lib.hid (And.intro (X.out.1.kn s1) (And.intro (X.out.2.1.kn s1) (And.intro (X.out.2.2.2.1.trans s1) (And.intro X.out.2.2.2.2.2.1 X.out.2.2.2.2.2.2))))
  clear MD X s1 o1 y0 y1 y2 y3 y4
  go_wp2_with fail
  with_reducible refine DC.mono ?_
  rintro e w2 ⟨M, pm, rfl, c2, s2, o2⟩
  obtain ⟨hml, hm1, hm0⟩ := hPM.out M pm
  obtain ⟨ZM, hZM, zM⟩ := zero_msg
  obtain ⟨ZF, hZF, zF⟩ := zero_fault
  obtain ⟨W3, W4, c4, hW3, hW4, am, af, o4, s4, t1, t2, t3, t4, t5, t6⟩ := stnew2 o2 hZM hml hm1 info_msg hZF (B2 := [.int .i64 e0, .int .i64 e1]) rfl (by intro v hv; simp only [List.mem_cons, List.not_mem_nil, or_false] at hv; rcases hv with rfl | rfl <;> rfl) info_fault2 (q := q + 1) (q2 := q + 2) (Nat.succ_ne_zero q) (Nat.succ_ne_zero _)
  obtain ⟨mb, hmb⟩ : ∃ b, w2.heap.size = b := ⟨_, rfl⟩
  rw [hmb] at hW3 hW4 am af t1 t4
  have s24 := s2.trans s4
  have X3 := Lib.hid (And.intro (X2.out.1.kn s24) (And.intro (X2.out.2.1.kn s24) (And.intro (X2.out.2.2.1.trans s24) (And.intro X2.out.2.2.2.1 (And.intro X2.out.2.2.2.2 (And.intro am (And.intro af (And.intro o4 (And.intro pm hm0)))))))))
  have yk := am.get hm0
  have yf0 := af.get (i := 0) rfl
  have yf1 := af.get (i := 1) rfl
  have TT := Lib.hid (And.intro t1 (And.intro t2 (And.intro t3 (And.intro t4 (And.intro t5 (And.intro t6 (And.intro zM (And.intro zF (And.intro hW3 hW4)))))))))
  clear DC X2 s2 o2 hml hm1 hm0 hZM hZF zM zF hW3 hW4 am af o4 s4 t1 t2 t3 t4 t5 t6 s24 pm
  have hno : ((m == 0) || !(e0 == 0 && e1 == 0) || !(k1 == 1)) = true → R = [] ∧ wt = 0 ∧ it = false := fun hb => by
    have h1 : R = [] := by have := HR.out.1; rw [if_pos hb] at this; exact this
    refine ⟨h1, ?_, ?_⟩
    · rw [HR.out.2.1, if_pos h1]
    · rw [HR.out.2.2.1, h1]; rfl
  have NO : ∀ {R' : Prop}, (R = [] ∧ wt = 0 ∧ it = false → R') → ((m == 0) || !(e0 == 0 && e1 == 0) || !(k1 == 1)) = true → R' := fun f hb => f (hno hb)
  clear hno
  have HNO := Lib.hid (fun (hb : ((m == 0) || !(e0 == 0 && e1 == 0) || !(k1 == 1)) = true) => (NO (fun x => x) hb : R = [] ∧ wt = 0 ∧ it = false))
  clear NO
  by_cases hm : m = 0
  · have F := Lib.hid (HNO.out (by rw [hm]; rfl))
    clear HNO
    subst hm
    go_wp2_with (first | (refine wpList_alloc_zero rfl (some 10) rfl 72 rfl TT.out.2.2.2.2.2.2.1 ?_; rw [hmb]) | (refine wpList_alloc_zero rfl (some 11) rfl 74 rfl TT.out.2.2.2.2.2.2.2.1 ?_; rw [World.size_alloc, hmb]) | (refine wpList_store_mid rfl 72 _ _ rfl mb 0 M.toArray rfl rfl TT.out.1 TT.out.2.1 TT.out.2.2.1 ?_; rw [TT.out.2.2.2.2.2.2.2.2.1]) | (refine wpList_store_mid rfl 74 _ _ rfl (mb + 1) 0 _ rfl rfl TT.out.2.2.2.1 TT.out.2.2.2.2.1 TT.out.2.2.2.2.2.1 ?_; rw [TT.out.2.2.2.2.2.2.2.2.2]))
    go_ret3
    rw [F.out.1, F.out.2.1, F.out.2.2]
    exact ⟨_, rfl, c4, Sl.nil _ _ _ _ _, X3.out.2.2.1, X3.out.2.2.2.2.2.2.2.1⟩
  have hmb0 : (m == 0) = false := by simpa using hm
  by_cases he0 : e0 = 0
  · by_cases he1 : e1 = 0
    · by_cases hk1 : k1 = 1
      · clear HNO
        subst he0 he1 hk1
        have hne : ¬ ((m == 0) || !((0 : Int) == 0 && (0 : Int) == 0) || !((1 : Int) == 1)) = true := by simp [hm]
        obtain ⟨hck, hm1, hm9⟩ := HR.out.2.2.2 hm
        obtain ⟨hMM, hid, hh⟩ := X3.out.2.2.2.1 rfl
        have hMe := hMM M X3.out.2.2.2.2.2.2.2.2.1
        have hO : R = outS m s h id := by have := HR.out.1; rw [if_neg hne] at this; exact this
        have z1 : W4.cell? ⟨mb, 1, none⟩ = some (.int .i64 id) := by have := X3.out.2.2.2.2.2.1; rw [hMe] at this; exact this.get (i := 1) rfl
        have z2 : W4.cell? ⟨mb, 2, none⟩ = some (.int .i64 h) := by have := X3.out.2.2.2.2.2.1; rw [hMe] at this; exact this.get (i := 2) rfl
        have y0 := X3.out.2.1.get (i := 0) rfl
        have y1 := X3.out.2.1.get (i := 1) rfl
        have y2 := X3.out.2.1.get (i := 2) rfl
        have y3 := X3.out.2.1.get (i := 3) rfl
        have y4 := X3.out.2.1.get (i := 4) rfl
        obtain ⟨ad, od, sd⟩ := newAt X3.out.2.2.2.2.2.2.2.1 [.slice vca cl vcc, .slice voa ol voc, .slice vma ml vmc, .int .i64 DE, .int .i64 SL, .int .i64 id, .int .i64 h, .int .i64 DE] 79 q
        obtain ⟨db, hdb⟩ : ∃ b, W4.heap.size = b := ⟨_, rfl⟩
        obtain ⟨W5, hW5⟩ : ∃ W, W4.alloc (.cells #[.slice vca cl vcc, .slice voa ol voc, .slice vma ml vmc, .int .i64 DE, .int .i64 SL, .int .i64 id, .int .i64 h, .int .i64 DE] 79) = W := ⟨_, rfl⟩
        rw [hdb] at ad od sd
        rw [hW5] at ad od sd
        have WY := ways_any od db
        have hHR := Lib.hid (And.intro hO (And.intro hck (And.intro hid (And.intro hh (And.intro hm1 hm9)))))
        have X5 := Lib.hid (And.intro ad (And.intro (X3.out.1.kn sd) (And.intro (X3.out.2.2.1.trans sd) X3.out.2.2.2.2.1)))
        have hix : ∀ W, (Instr.index 81 (.agg (waysC db).toArray) (.int .i64 m)).run Tryz.prog W = .ok (.func (.func (fnW m)) #[.pointer (some ⟨db, 0, none⟩)] #[]) W := fun W => index_ways hm1 hm9 db W
        have hen := fun args W => fnW_enters hm1 hm9 args W
        obtain ⟨f, hf⟩ : ∃ f, fnW m = f := ⟨_, rfl⟩
        rw [hf] at hix hen
        have HF := Lib.hid hf
        clear hne hck hm1 hm9 hMM hMe hid hh hO ad od sd X3 hf
        go_wp2_with (first | (refine wpList_alloc_zero rfl (some 10) rfl 72 rfl TT.out.2.2.2.2.2.2.1 ?_; rw [hmb]) | (refine wpList_alloc_zero rfl (some 11) rfl 74 rfl TT.out.2.2.2.2.2.2.2.1 ?_; rw [World.size_alloc, hmb]) | (refine wpList_store_mid rfl 72 _ _ rfl mb 0 M.toArray rfl rfl TT.out.1 TT.out.2.1 TT.out.2.2.1 ?_; rw [TT.out.2.2.2.2.2.2.2.2.1]) | (refine wpList_store_mid rfl 74 _ _ rfl (mb + 1) 0 _ rfl rfl TT.out.2.2.2.1 TT.out.2.2.2.2.1 TT.out.2.2.2.2.2.1 ?_; rw [TT.out.2.2.2.2.2.2.2.2.2]))
        (try rw [hdb])
        (try rw [hW5])
        with_reducible refine WY.mono ?_
        rintro e w6 ⟨rfl, c6, s6, o6⟩
        obtain ⟨hO, hck, hid, hh, hm1, hm9⟩ := hHR.out
        have ad6 : At c6 w6 db q (deskC s (.slice vca cl vcc) (.slice voa ol voc) (.slice vma ml vmc) id h s.delay) := by
          have := X5.out.1.kn s6
          unfold deskC
          rw [HN.out.2.2.2.1, HN.out.2.2.2.2.1]
          exact this
        have WA := way_any o6 (show ¬ k = q by omega) hq0 (X5.out.2.1.kn s6) hid hh ad6 hck hm1 hm9 ky
        rw [HF.out] at WA
        obtain ⟨L, hL⟩ : ∃ L, outS m s h id = L := ⟨_, rfl⟩
        rw [hL] at WA hO
        obtain ⟨tk, htk⟩ : ∃ t, tickS m s = t := ⟨_, rfl⟩
        rw [htk] at WA
        have X6 := Lib.hid (And.intro hO (And.intro (X5.out.2.2.1.trans s6) (And.intro X5.out.2.2.2 htk)))
        clear WY s6 o6 hO hck hid hh hm1 hm9 ad6 hL htk X5
        go_wp2_with fail
        with_reducible refine WA.mono ?_
        rintro e w7 ⟨x, rfl, c7, sl7, a7, s7, o7⟩
        obtain ⟨xa, xn, rfl, _⟩ := sl7.form
        have hqc := X6.out.2.2.1
        have sAll : Step No c w c7 w7 := ((X6.out.2.1.ofNo (K := One q)).trans s7).drop fun b _ (e : c b = q) => by have := hqc b; omega
        have y7 := a7.get (i := 7) rfl
        have KK : (fun W : World => W.cell? ⟨db, 7, none⟩ = some (.int .i64 tk)) w7.drew := (a7.kn (Step.rf.drewN (K := No) 1)).get (i := 7) rfl
        have X7 := Lib.hid (And.intro sl7 (And.intro sAll (And.intro o7 (And.intro X6.out.1 X6.out.2.2.2))))
        clear WA s7 o7 a7 sl7 sAll hqc X6 hix hen
        by_cases hl : L = []
        · have F := Lib.hid (show R = [] ∧ wt = 0 ∧ it = false by
            have h1 : R = [] := by rw [X7.out.2.2.2.1, hl]
            exact ⟨h1, by rw [HR.out.2.1, if_pos h1], by rw [HR.out.2.2.1, h1]; rfl⟩)
          subst hl
          go_wp2_with fail
          go_ret3
          rw [F.out.1, F.out.2.1, F.out.2.2]
          exact ⟨_, rfl, c7, Sl.nil _ _ _ _ _, X7.out.2.1, X7.out.2.2.1⟩
        · have F := Lib.hid (show R = L ∧ wt = tk ∧ it = true by
            have h1 : R = L := X7.out.2.2.2.1
            have h2 : R ≠ [] := by rw [h1]; exact hl
            exact ⟨h1, by rw [HR.out.2.1, if_neg h2]; exact X7.out.2.2.2.2, by rw [HR.out.2.2.1]; unfold isT; rw [if_neg h2]⟩)
          have hn0 : ((L.length : Int) == 0) = false := by
            have : L.length ≠ 0 := fun h => hl (List.eq_nil_of_length_eq_zero h)
            simpa using this
          have hn1 : L.length ≠ 0 := fun h => hl (List.eq_nil_of_length_eq_zero h)
          clear hl
          go_wp2_with fail
          refine region_planM (fun W => W.cell? ⟨db, 7, none⟩ = some (.int .i64 tk)) (fun _ => true) (by kernel_rfl) ?_
          refine tk1 0 _ 49 rfl rfl KK ?_
          refine tk1 1 _ 50 rfl rfl KK ?_
          refine tk1 2 _ 51 rfl rfl KK ?_
          refine tk1 3 _ 52 rfl rfl KK ?_
          refine tk1 4 _ 53 rfl rfl KK ?_
          refine wpAnyM.one (i := 5) (by kernel_rfl) rfl (fun KQ hK => ?_)
          go_simp
          refine hK.out _ _ (fun _ => KK) ?_
          clear hK KQ
          (try simp only [Act.put, List.setIfInBounds_toArray, List.set_cons_zero, List.set_cons_succ])
          refine wpAnyM.one (i := 6) (by kernel_rfl) rfl (fun KQ hK => ?_)
          go_simp
          refine hK.out _ _ (fun _ => KK) ?_
          clear hK KQ
          (try simp only [Act.put, List.setIfInBounds_toArray, List.set_cons_zero, List.set_cons_succ])
          refine wpAnyM.one (i := 7) (by kernel_rfl) rfl (fun KQ hK => ?_)
          go_simp
          refine hK.out _ _ (fun _ => KK) ?_
          clear hK KQ
          (try simp only [Act.put, List.setIfInBounds_toArray, List.set_cons_zero, List.set_cons_succ])
          refine wpAnyM.done (by kernel_rfl) ?_ _
          go_wp2_with fail
          go_ret3
          rw [F.out.1, F.out.2.1, F.out.2.2]
          exact ⟨_, rfl, c7, X7.out.1.kn (Step.rf.drewN 1), X7.out.2.1.drewN 1, X7.out.2.2.1.drewN 1⟩
      · have F := Lib.hid (HNO.out (by simp [hk1]))
        clear HNO
        subst he0 he1
        have hkb : (k1 != 1) = true := by simpa using hk1
        go_wp2_with (first | (refine wpList_alloc_zero rfl (some 10) rfl 72 rfl TT.out.2.2.2.2.2.2.1 ?_; rw [hmb]) | (refine wpList_alloc_zero rfl (some 11) rfl 74 rfl TT.out.2.2.2.2.2.2.2.1 ?_; rw [World.size_alloc, hmb]) | (refine wpList_store_mid rfl 72 _ _ rfl mb 0 M.toArray rfl rfl TT.out.1 TT.out.2.1 TT.out.2.2.1 ?_; rw [TT.out.2.2.2.2.2.2.2.2.1]) | (refine wpList_store_mid rfl 74 _ _ rfl (mb + 1) 0 _ rfl rfl TT.out.2.2.2.1 TT.out.2.2.2.2.1 TT.out.2.2.2.2.2.1 ?_; rw [TT.out.2.2.2.2.2.2.2.2.2]))
        go_ret3
        rw [F.out.1, F.out.2.1, F.out.2.2]
        exact ⟨_, rfl, c4, Sl.nil _ _ _ _ _, X3.out.2.2.1, X3.out.2.2.2.2.2.2.2.1⟩
    · have F := Lib.hid (HNO.out (by simp [he1]))
      clear HNO
      subst he0
      have heb : (e1 == 0) = false := by simpa using he1
      go_wp2_with (first | (refine wpList_alloc_zero rfl (some 10) rfl 72 rfl TT.out.2.2.2.2.2.2.1 ?_; rw [hmb]) | (refine wpList_alloc_zero rfl (some 11) rfl 74 rfl TT.out.2.2.2.2.2.2.2.1 ?_; rw [World.size_alloc, hmb]) | (refine wpList_store_mid rfl 72 _ _ rfl mb 0 M.toArray rfl rfl TT.out.1 TT.out.2.1 TT.out.2.2.1 ?_; rw [TT.out.2.2.2.2.2.2.2.2.1]) | (refine wpList_store_mid rfl 74 _ _ rfl (mb + 1) 0 _ rfl rfl TT.out.2.2.2.1 TT.out.2.2.2.2.1 TT.out.2.2.2.2.2.1 ?_; rw [TT.out.2.2.2.2.2.2.2.2.2]))
      go_ret3
      rw [F.out.1, F.out.2.1, F.out.2.2]
      exact ⟨_, rfl, c4, Sl.nil _ _ _ _ _, X3.out.2.2.1, X3.out.2.2.2.2.2.2.2.1⟩
  · have F := Lib.hid (HNO.out (by simp [he0]))
    clear HNO
    have heb : (e0 == 0) = false := by simpa using he0
    go_wp2_with (first | (refine wpList_alloc_zero rfl (some 10) rfl 72 rfl TT.out.2.2.2.2.2.2.1 ?_; rw [hmb]) | (refine wpList_alloc_zero rfl (some 11) rfl 74 rfl TT.out.2.2.2.2.2.2.2.1 ?_; rw [World.size_alloc, hmb]) | (refine wpList_store_mid rfl 72 _ _ rfl mb 0 M.toArray rfl rfl TT.out.1 TT.out.2.1 TT.out.2.2.1 ?_; rw [TT.out.2.2.2.2.2.2.2.2.1]) | (refine wpList_store_mid rfl 74 _ _ rfl (mb + 1) 0 _ rfl rfl TT.out.2.2.2.1 TT.out.2.2.2.2.1 TT.out.2.2.2.2.2.1 ?_; rw [TT.out.2.2.2.2.2.2.2.2.2]))
    go_ret3
    rw [F.out.1, F.out.2.1, F.out.2.2]
    exact ⟨_, rfl, c4, Sl.nil _ _ _ _ _, X3.out.2.2.1, X3.out.2.2.2.2.2.2.2.1⟩
end
end Go.Proofs.YtgcobbapaaihiaaGreat

set_option linter.unusedVariables false
set_option linter.unusedSimpArgs false
namespace Go.Proofs.YtgcobbapaaihiaaGreat
open Go.RowKit

theorem pick_any (x n : Int) (w : World) (hn : 1 ≤ n) (hn2 : n ≤ 1073741824) :
    Calls Tryz.prog 28 #[.int .i64 x, .int .i64 n] w fun r w' => (∃ p, r = .returned (.int .i64 p) ∧ 0 ≤ p ∧ p < n) ∧ w = w' := by
  have h1 := Int.tmod_lt_of_pos x (show 0 < n by omega)
  have h2 : -n < Int.tmod x n := by
    have := Int.tmod_lt_of_pos (-x) (show 0 < n by omega)
    rw [Int.neg_tmod] at this
    omega
  have hn0 : ¬ n ≤ 0 := by omega
  have hnz : n ≠ 0 := by omega
  have hnm : ¬ n = -1 := by omega
  have hw : IntKind.i64.wrap (Int.tmod x n) = Int.tmod x n := IntWalk.i64_in _ (by omega)
  have hw2 : Int.tmod x n < 0 → IntKind.i64.wrap (Int.tmod x n + n) = Int.tmod x n + n := fun _ => IntWalk.i64_in _ (by omega)
  obtain ⟨m, hm⟩ : ∃ m, Int.tmod x n = m := ⟨_, rfl⟩
  rw [hm] at h1 h2 hw hw2
  by_cases h0 : m < 0
  · have hw3 := hw2 h0
    have H := Lib.hid (And.intro h1 h2)
    clear h1 h2 hw2 hn hn2
    go_enter Tryz.func28, Tryz.ntmps28
    go_wp2_with fail
    go_ret
    have := H.out
    exact ⟨⟨_, rfl, by omega, by omega⟩, rfl⟩
  · have H := Lib.hid (And.intro h1 h2)
    clear h1 h2 hw2 hn hn2
    go_enter Tryz.func28, Tryz.ntmps28
    go_wp2_with fail
    go_ret
    have := H.out
    exact ⟨⟨_, rfl, by omega, by omega⟩, rfl⟩

theorem sameB_any {c : Col} {w : World} {k k2 k' k2' : Nat} {v v' : Value} {l l' : List UInt8} (h : Sl TByte c k k2 w v l) (h' : Sl TByte c k' k2' w v' l') :
    Calls Tryz.prog 12 #[v, v'] w fun r w' => r = .returned (.bool (l == l')) ∧ w = w' := by
  have e1 := conv_sl h 26 9 5 Tryz.underlying26 Tryz.underlying5 Tryz.underlying9
  have e2 := conv_sl h' 26 9 5 Tryz.underlying26 Tryz.underlying5 Tryz.underlying9
  obtain ⟨a, n, rfl, _⟩ := h.form
  obtain ⟨a', n', rfl, _⟩ := h'.form
  clear h h'
  go_enter Tryz.func12, Tryz.ntmps12
  go_wp2
  go_ret
  exact ⟨rfl, rfl⟩

/-- Some truth value is answered. -/
def isB (r : Ending) : Prop := ∃ t : Bool, r = .returned (.bool t)
theorem isB.ret (t : Bool) : isB (.returned (.bool t)) := ⟨t, rfl⟩

/-- A truth value; if it is false, Q. -/
def isBf (Q : Prop) (r : Ending) : Prop := ∃ t : Bool, r = .returned (.bool t) ∧ (t = false → Q)
theorem isBf.yes (Q : Prop) : isBf Q (.returned (.bool true)) := ⟨true, rfl, fun h => by cases h⟩
theorem isBf.no {Q : Prop} (h : Q) : isBf Q (.returned (.bool false)) := ⟨false, rfl, fun _ => h⟩

/-- A block as it came in: no bounds are known. -/
structure Blo.Raw (b : Blo) (c : Col) (k : Nat) (w : World) (vc vv : Value) : Prop where
  height : IntKind.i64.has b.h.height
  time : IntKind.i64.has b.h.time
  prev : b.h.prev.length = 32
  hvals : b.h.vals.length = 32
  next : b.h.next.length = 32
  app : b.h.app.length = 32
  hash : b.cm.hash.length = 32
  cheight : IntKind.i64.has b.cm.height
  votes : Sl TVot c k k w vc b.cm.votes
  vals : Sl TVal c k k w vv b.vals

def shortB (b : Blo) : Prop := b.vals.length ≤ 70 ∧ b.cm.votes.length ≤ 70 ∧ b.h.name.length ≤ 60

section
variable {c : Col} {w : World}

theorem Blo.Raw.keep {b : Blo} {K : Nat → Prop} {c c' : Col} {k : Nat} {w w' : World} {vc vv : Value} (h : b.Raw c k w vc vv) (hs : Step K c w c' w') (hk : ¬ K k) : b.Raw c' k w' vc vv :=
  ⟨h.height, h.time, h.prev, h.hvals, h.next, h.app, h.hash, h.cheight, h.votes.keep hs hk hk, h.vals.keep hs hk hk⟩
theorem Blo.Raw.at {b : Blo} {k : Nat} {vc vv : Value} (h : b.Raw c k w vc vv) (hs : shortB b) : b.At c k w vc vv :=
  ⟨⟨by have := hs.2.2; omega, h.height, h.time, h.prev, h.hvals, h.next, h.app⟩, h.hash, h.cheight, h.votes, h.vals, by have := hs.2.1; omega, by have := hs.1; omega⟩
theorem Blo.Raw.cells {b : Blo} {k : Nat} {vc vv : Value} (h : b.Raw c k w vc vv) : (bloC b vc vv).length = 166 ∧ (bloC b vc vv)[0]? = some (.string ⟨b.h.name.toArray⟩) ∧ (bloC b vc vv)[164]? = some vc ∧ (bloC b vc vv)[165]? = some vv ∧ ∀ v ∈ bloC b vc vv, v.oneCell' = true := by
  have e1 : (hdrC b.h).length = 131 := by simp [hdrC, bC_len, h.prev, h.hvals, h.next, h.app]
  have e2 : (cmC b.cm vc).length = 34 := cmC_len h.hash vc
  refine ⟨by simp [bloC, e1, e2], rfl, ?_, ?_, ?_⟩
  · unfold bloC
    rw [List.getElem?_append_right (by omega), e1, List.getElem?_append_left (by omega)]
    unfold cmC
    rw [show (164 - 131 : Nat) = 32 + 1 from rfl, List.getElem?_cons_succ, List.getElem?_append_right (by rw [bC_len, h.hash]; omega), bC_len, h.hash]
    rfl
  · unfold bloC
    rw [List.getElem?_append_right (by omega), e1, List.getElem?_append_right (by omega), e2]
    rfl
  · intro v hv
    simp only [bloC, List.mem_append, List.mem_cons, List.not_mem_nil, or_false] at hv
    rcases hv with hv | hv | rfl
    · exact hdrC_one _ v hv
    · exact cmC_one (sl_one h.votes) v hv
    · exact sl_one h.vals

/-- A block as it came in, as an element. -/
def TBlR : Ty Blo where
  n := 166
  rd := fun c k w vs b => ∃ vc vv, vs = bloC b vc vv ∧ b.Raw c k w vc vv
  len := by rintro _ _ _ _ _ ⟨vc, vv, rfl, h⟩; exact h.cells.1
  one := by rintro _ _ _ _ _ ⟨vc, vv, rfl, h⟩; exact h.cells.2.2.2.2
  keep := by rintro _ _ _ _ _ _ _ _ hs hk ⟨vc, vv, h, ha⟩; exact ⟨vc, vv, h, ha.keep hs hk⟩
  turn := by rintro _ _ _ _ _ _ ⟨vc, vv, h, ha⟩; exact ⟨vc, vv, h, ⟨ha.height, ha.time, ha.prev, ha.hvals, ha.next, ha.app, ha.hash, ha.cheight, ha.votes.turnAll, ha.vals.turnAll⟩⟩

theorem raw_sl {k k2 : Nat} {v : Value} {l : List Blo} (h : Sl TBlR c k k2 w v l) (hs : ∀ b ∈ l, shortB b) : Sl TBlo c k k2 w v l := by
  rcases h with h | ⟨b, off, cap, hv, h1, h2, h3, h4, h5⟩
  · exact .inl h
  · refine .inr ⟨b, off, cap, hv, h1, h2, h3, h4, fun i x hx => ?_⟩
    obtain ⟨vs, ⟨vc, vv, a1, a2⟩, a3⟩ := h5 i x hx
    exact ⟨vs, ⟨vc, vv, a1, a2.at (hs x (List.mem_of_getElem? hx))⟩, a3⟩

set_option maxRecDepth 100000 in
set_option maxHeartbeats 1600000 in
theorem longBlock_any (hok : Ok c w) {b : Blo} {k : Nat} {vc vv : Value} (hb : b.Raw c k w vc vv) :
    Calls Tryz.prog 46 #[.agg (bloC b vc vv).toArray] w fun r w' => isBf (shortB b) r ∧ ∃ c', Step No c w c' w' ∧ Ok c' w' := by
  have a0 := At.new0 hok (bloC b vc vv) 59
  have s0 : Step No c w c (w.alloc (.cells (bloC b vc vv).toArray 59)) := Step.refl.alloc _
  have o0 := hok.alloc (.cells (bloC b vc vv).toArray 59)
  obtain ⟨hbl, p1, p2, p3, _⟩ := hb.cells
  obtain ⟨bx, hbx⟩ : ∃ b, w.heap.size = b := ⟨_, rfl⟩
  rw [hbx] at a0
  have y0 := a0.get p1
  have y164 := a0.get p2
  have y165 := a0.get p3
  obtain ⟨va, vn, rfl, _⟩ := hb.votes.form
  obtain ⟨ua, un, rfl, _⟩ := hb.vals.form
  obtain ⟨B, hB⟩ : ∃ B, bloC b (.slice va b.cm.votes.length vn) (.slice ua b.vals.length un) = B := ⟨_, rfl⟩
  rw [hB] at y0 y164 y165 s0 o0 ⊢
  obtain ⟨W0, hW0⟩ : ∃ W, w.alloc (.cells B.toArray 59) = W := ⟨_, rfl⟩
  rw [hW0] at y0 y164 y165 s0 o0
  have X := Lib.hid (And.intro s0 o0)
  clear a0 s0 o0 p1 p2 p3 hb hok hB hbl
  have hnm : (⟨b.h.name.toArray⟩ : ByteArray).size = b.h.name.length := by simp [ByteArray.size]
  obtain ⟨n1, h1⟩ : ∃ n, b.vals.length = n := ⟨_, rfl⟩
  obtain ⟨n2, h2⟩ : ∃ n, b.cm.votes.length = n := ⟨_, rfl⟩
  obtain ⟨n3, h3⟩ : ∃ n, b.h.name.length = n := ⟨_, rfl⟩
  obtain ⟨NM, hNM⟩ : ∃ x, (⟨b.h.name.toArray⟩ : ByteArray) = x := ⟨_, rfl⟩
  rw [hNM, h3] at hnm
  rw [hNM] at y0
  rw [h1] at y165
  rw [h2] at y164
  have HN := Lib.hid (And.intro h1 (And.intro h2 h3))
  clear h1 h2 h3 hNM
  by_cases t1 : (70 : Int) < (n1 : Int)
  · go_enter Tryz.func46, Tryz.ntmps46
    go_wp2_with fail
    go_ret
    exact ⟨isBf.yes _, c, X.out⟩
  · by_cases t2 : (70 : Int) < (n2 : Int)
    · go_enter Tryz.func46, Tryz.ntmps46
      go_wp2_with fail
      go_ret
      exact ⟨isBf.yes _, c, X.out⟩
    · by_cases t3 : (60 : Int) < (n3 : Int)
      · go_enter Tryz.func46, Tryz.ntmps46
        go_wp2_with fail
        go_ret
        exact ⟨isBf.yes _, c, X.out⟩
      · have HT := Lib.hid (And.intro t1 (And.intro t2 t3))
        go_enter Tryz.func46, Tryz.ntmps46
        go_wp2_with fail
        go_ret
        obtain ⟨t1, t2, t3⟩ := HT.out
        obtain ⟨e1, e2, e3⟩ := HN.out
        exact ⟨isBf.no ⟨by omega, by omega, by omega⟩, c, X.out⟩

set_option maxRecDepth 100000 in
set_option maxHeartbeats 1600000 in
theorem longBlocks_any (hok : Ok c w) {k : Nat} {v : Value} {l : List Blo} (hl : Sl TBlR c k k w v l) (most : Int) :
    Calls Tryz.prog 30 #[v, .int .i64 most] w fun r w' => isBf ((l.length : Int) ≤ most ∧ ∀ b ∈ l, shortB b) r ∧ ∃ c', Step No c w c' w' ∧ Ok c' w' := by
  have hn : l.length ≤ 9223372036854775807 := by
    rcases hl with ⟨rfl, _⟩ | ⟨b, off, cap, _, h1, h2, _⟩
    · simp
    · simp only [maxLen] at h2; omega
  obtain ⟨va, vn, rfl, _⟩ := hl.form
  have X := Lib.hid (And.intro hok hl)
  obtain ⟨n, hn2⟩ : ∃ n, l.length = n := ⟨_, rfl⟩
  rw [hn2] at hn X ⊢
  have HN := Lib.hid hn2
  clear hok hl hn2
  go_enter Tryz.func30, Tryz.ntmps30
  go_wp2_with fail
  go_loopw [5] (fun i wr => ∃ (j : Nat) (cr : Col), j ≤ n ∧ i = .int .i64 j ∧ (∀ (i : Nat) (b : Blo), i < j → l[i]? = some b → shortB b) ∧ Step No c w cr wr ∧ Ok cr wr) (fun i _ => n - (intOf i).toNat)
  case atStart => exact ⟨0, c, Nat.zero_le _, rfl, fun i b h => absurd h (Nat.not_lt_zero i), Step.refl, X.out.1⟩
  case round =>
    obtain ⟨j, cr, hj, rfl, hall, s1, o1⟩ := hrel
    by_cases hjn : j < n
    · by_cases hm : (j : Int) ≤ most
      · have hi : ∃ b, l[j]? = some b := ⟨l[j]'(by rw [HN.out]; exact hjn), by simp⟩
        obtain ⟨b, hi⟩ := hi
        obtain ⟨g, off, hga⟩ : ∃ g off, va = some ⟨g, off, none⟩ := by
          obtain ⟨g, off, cap, e, _⟩ := X.out.2.some (by rw [HN.out]; omega)
          injection e with e1
          exact ⟨g, off, e1⟩
        subst hga
        obtain ⟨vs, ⟨uc, uv, rfl, hb⟩, hcs⟩ := (X.out.2.kn s1).at hi
        have LB := longBlock_any o1 hb
        have hbl := hb.cells.1
        obtain ⟨B, hB⟩ : ∃ B, bloC b uc uv = B := ⟨_, rfl⟩
        rw [hB] at LB hcs hbl
        have T := Lib.hid (And.intro hcs (And.intro (show (Tryz.prog.info? 59).map (·.size) = some B.length by rw [info_blo, hbl]) (And.intro s1 (And.intro hall hi))))
        have hjn2 : (j : Int) < (n : Int) := by omega
        clear hcs hbl hb hB hi s1 o1 hall
        go_wp2_with (refine wpList_load_mid rfl 59 _ rfl g (off + j * 166) rfl B _ T.out.1 Tryz.underlying59 rfl T.out.2.1 ?_)
        with_reducible refine LB.mono ?_
        rintro e w2 ⟨⟨t, rfl, ht⟩, c2, s2, o2⟩
        have X2 := Lib.hid (And.intro (T.out.2.2.1.trans s2) o2)
        clear LB s2 o2
        cases t with
        | true =>
          go_wp2_with fail
          go_ret
          exact ⟨isBf.yes _, c2, X2.out⟩
        | false =>
          have HT := Lib.hid (ht rfl)
          clear ht
          have hw : IntKind.i64.wrap ((j : Int) + 1) = ((j + 1 : Nat) : Int) := by rw [IntWalk.i64_in _ (by omega)]; rfl
          go_wp2_with fail
          go_roundw
          case rel =>
            refine ⟨j + 1, c2, by omega, by first | rfl | go_num, fun i b' hlt he => ?_, X2.out⟩
            rcases Nat.lt_or_ge i j with h | h
            · exact T.out.2.2.2.1 i b' h he
            · have : i = j := by omega
              subst this
              have := he.symm.trans T.out.2.2.2.2
              injection this with this
              subst this
              exact HT.out
          case measure => simp [intOf]; omega
      · have hjn2 : (j : Int) < (n : Int) := by omega
        have hm2 : most < (n : Int) := by omega
        have X2 := Lib.hid (And.intro s1 o1)
        clear s1 o1 hall
        go_wp2_with fail
        go_ret
        exact ⟨isBf.yes _, cr, X2.out⟩
    · have hjn2 : ¬ (j : Int) < (n : Int) := by omega
      have X2 := Lib.hid (And.intro s1 (And.intro o1 hall))
      clear s1 o1 hall
      by_cases hm2 : most < (n : Int)
      · go_wp2_with fail
        go_ret
        exact ⟨isBf.yes _, cr, X2.out.1, X2.out.2.1⟩
      · have HM := Lib.hid hm2
        go_wp2_with fail
        go_ret
        have := HM.out
        refine ⟨isBf.no fun b hb => ?_, cr, X2.out.1, X2.out.2.1⟩
        obtain ⟨i, hi⟩ := List.getElem?_of_mem hb
        have hlt := (List.getElem?_eq_some_iff.1 hi).1
        have := HN.out
        exact X2.out.2.2 i b (by omega) hi
end
end Go.Proofs.YtgcobbapaaihiaaGreat
