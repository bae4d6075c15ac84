/- ServerKnown, part 19: lemmas, each with its own conditions. -/
import Derived.Test.YtgcobbapaaihiaaGreatSk04
import Derived.Test.YtgcobbapaaihiaaGreatSk10
import Derived.Test.YtgcobbapaaihiaaGreatSk11
import Derived.Test.YtgcobbapaaihiaaGreatSk14
set_option linter.unusedVariables false
set_option linter.unusedSimpArgs false
namespace Go.Proofs.YtgcobbapaaihiaaGreat
open Go.RowKit

section
variable {c : Col} {w : World}

/-- A validator in a new block. -/
theorem vnew (hok : Ok c w) {x : Vld} (hx : x.key.length = 4) {q : Nat} (hq : q ≠ 0) :
    ∃ W c', (w.alloc (.cells #[.int .u8 0, .int .u8 0, .int .u8 0, .int .u8 0, .int .i64 0] 93)).setCells w.heap.size 0 (valC x) = W ∧ At c' W w.heap.size q (valC x) ∧ Ok c' W ∧ Step No c w c' W ∧
      (w.alloc (.cells #[.int .u8 0, .int .u8 0, .int .u8 0, .int .u8 0, .int .i64 0] 93)).there w.heap.size 0 (valC x).toArray.size ∧ (Tryz.prog.info? 93).map (·.size) = some (valC x).toArray.size ∧ (valC x).toArray.all (·.oneCell') = true ∧ (Tryz.prog.info? 93).map (·.size) = some (valC x).length := by
  obtain ⟨a, o, s⟩ := newAt hok [.int .u8 0, .int .u8 0, .int .u8 0, .int .u8 0, .int .i64 0] 93 q
  have hl := valC_len hx
  have hi0 : (Tryz.prog.info? 93).map (·.size) = some (valC x).length := by rw [info_val, hl]
  have hi1 : (Tryz.prog.info? 93).map (·.size) = some (valC x).toArray.size := by rw [info_val]; simp [hl]
  obtain ⟨_, a2⟩ := a.st o hq (ty := 93) (us := valC x) (by rw [hl]; rfl) hi0 (valC_one x)
  exact ⟨_, _, rfl, a2, Ok.setCells _ _ _ o, Step.setCells (.inl (Nat.le_refl _)) _ _ _ s, a.there o hq (by simp [hl]), hi1, all_oneCell_toArray (valC_one x), hi0⟩

set_option maxRecDepth 100000 in
set_option maxHeartbeats 1600000 in
theorem vcheck_any (hok : Ok c w) {kx k2 : Nat} {v : Value} {l : List Vld} (hv : Sl TVal c kx k2 w v l) (hn : l.length ≤ 1000000000) :
    Calls Tryz.prog 128 #[v] w fun r w' => r = .returned (.int .i64 (checkV l)) ∧ ∃ c', Step No c w c' w' ∧ Ok c' w' := by
  obtain ⟨va, vc, rfl, _⟩ := hv.form
  by_cases h0 : l.length = 0
  · have hc : checkV l = 6 := by unfold checkV; rw [if_pos h0]
    rw [hc]
    clear hv
    go_enter Tryz.func128, Tryz.ntmps128
    go_wp2_with fail
    go_ret
    exact ⟨rfl, c, Step.refl, hok⟩
  by_cases h64 : 64 < l.length
  · have hc : checkV l = 4 := by unfold checkV; rw [if_neg h0, if_pos h64]
    have h0' : ¬ (l.length : Int) = 0 := by omega
    have h64' : (64 : Int) < (l.length : Int) := by omega
    rw [hc]
    clear hv
    go_enter Tryz.func128, Tryz.ntmps128
    go_wp2_with fail
    go_ret
    exact ⟨rfl, c, Step.refl, hok⟩
  have hc : checkV l = goV 1 4611686018427387904 none l := by unfold checkV; rw [if_neg h0, if_neg h64]
  rw [hc]
  have h0' : ¬ (l.length : Int) = 0 := by omega
  have h64' : ¬ (64 : Int) < (l.length : Int) := by omega
  obtain ⟨q, hq, hqc⟩ := hok.top (kx + k2)
  have hq0 : q ≠ 0 := by omega
  obtain ⟨g, off, cap, e, hcap, hcm⟩ := hv.some (by omega)
  injection e with e1 _ e2
  subst e1 e2
  obtain ⟨ax, ox, sx⟩ := newAt hok (lookC [0, 0, 0, 0] false 1 4611686018427387904) 229 q
  have X0 := Lib.hid (And.intro ax (And.intro (hv.kn sx) (And.intro sx ox)))
  obtain ⟨xb, hxb⟩ : ∃ b, w.heap.size = b := ⟨_, rfl⟩
  rw [hxb] at X0
  clear ax ox sx hv hok hc
  go_enter Tryz.func128, Tryz.ntmps128
  go_wp2_with fail
  go_loopw [18] (fun vi wr => ∃ (i : Nat) (cr : Col) (last : List UInt8) (begun : Bool), i ≤ l.length ∧ vi = .int .i64 i ∧ last.length = 4 ∧ goV 1 4611686018427387904 none l = goV 1 4611686018427387904 (lastO begun last) (l.drop i) ∧ At cr wr xb q (lookC last begun 1 4611686018427387904) ∧
    Sl TVal cr kx k2 wr (.slice (some ⟨g, off, none⟩) l.length vc) l ∧ Step (Hi q q) c w cr wr ∧ Ok cr wr) (fun vi _ => l.length - (intOf vi).toNat)
  case atStart => exact ⟨0, _, [0, 0, 0, 0], false, Nat.zero_le _, rfl, rfl, by rw [List.drop_zero]; rfl, X0.out.1, X0.out.2.1, X0.out.2.2.1.ofNo, X0.out.2.2.2⟩
  case round =>
    clear X0
    obtain ⟨i, cr, last, begun, hi, rfl, hl4, hgo, ax, sl, st, ok⟩ := hrel
    by_cases hlt : i < l.length
    · obtain ⟨x, hx⟩ : ∃ x, l[i]? = some x := ⟨l[i], by simp [hlt]⟩
      have hdr : l.drop i = x :: l.drop (i + 1) := by rw [List.drop_eq_getElem_cons hlt]; rw [List.getElem?_eq_getElem hlt] at hx; injection hx with hx; rw [hx]
      obtain ⟨vs, ⟨rfl, hk4, hpw⟩, hcs⟩ := sl.at hx
      obtain ⟨W2, c2, hW2, a2, o2, s2, t1, t2, t3, t4⟩ := vnew ok hk4 (Nat.succ_ne_zero q)
      have x2 := ax.keep s2 (fun h => h)
      have AT := at_any o2 hq0 hl4 begun 1 4611686018427387904 x2 x hk4
      obtain ⟨e, he⟩ : ∃ e, atV (lastO begun last) 1 4611686018427387904 x = e := ⟨_, rfl⟩
      rw [he] at AT
      have hgo2 : goV 1 4611686018427387904 none l = if e ≠ 0 then e else goV 1 4611686018427387904 (some x.key) (l.drop (i + 1)) := by rw [hgo, hdr, goV, he]
      obtain ⟨b2, hb2⟩ : ∃ b, wr.heap.size = b := ⟨_, rfl⟩
      rw [hb2] at hW2 a2 t1
      obtain ⟨V, hV⟩ : ∃ V, valC x = V := ⟨_, rfl⟩
      rw [hV] at hW2 a2 t1 t2 t3 t4 hcs AT
      have SL := Lib.hid (And.intro hcs (And.intro t4 (And.intro t1 (And.intro t2 (And.intro t3 a2.cells)))))
      have X2 := Lib.hid (And.intro (sl.kn s2) (And.intro (st.trans s2.ofNo) (And.intro hgo2 (And.intro hk4 hi))))
      have hlt' : (i : Int) < (l.length : Int) := by omega
      have hW := Lib.hid hW2
      clear hcs t1 t2 t3 t4 a2 o2 s2 x2 ax sl st ok hgo hgo2 hdr hx he hV hk4 hpw
      by_cases he0 : e = 0
      · subst he0
        go_wp2_with (first | (refine wpList_load_mid rfl 93 _ rfl g (off + i * 5) rfl V _ SL.out.1 Tryz.underlying93 rfl SL.out.2.1 ?_) | (refine wpList_store_mid rfl 93 _ _ rfl b2 0 V.toArray rfl rfl SL.out.2.2.1 SL.out.2.2.2.1 SL.out.2.2.2.2.1 ?_; rw [hW2]) | (refine wpList_load_mid rfl 93 _ rfl b2 0 rfl V _ SL.out.2.2.2.2.2 Tryz.underlying93 rfl SL.out.2.1 ?_))
        with_reducible refine AT.mono ?_
        rintro e1 w3 ⟨rfl, c3, a3, s3, o3⟩
        have X3 := Lib.hid (And.intro a3 (And.intro (X2.out.1.keep s3 (show ¬ kx = q by omega) (show ¬ k2 = q by omega)) (And.intro (X2.out.2.1.hi s3 (.inr (Nat.le_refl _))) o3)))
        clear AT a3 s3 o3
        go_wp2_with fail
        go_roundw
        case rel =>
          refine ⟨i + 1, c3, x.key, true, by omega, by go_num, X2.out.2.2.2.1, ?_, X3.out⟩
          rw [X2.out.2.2.1, if_neg (by simp)]; rfl
        case measure => simp [intOf]; omega
      · have he0' : (e != 0) = true := by rw [bne_iff_ne]; exact he0
        go_wp2_with (first | (refine wpList_load_mid rfl 93 _ rfl g (off + i * 5) rfl V _ SL.out.1 Tryz.underlying93 rfl SL.out.2.1 ?_) | (refine wpList_store_mid rfl 93 _ _ rfl b2 0 V.toArray rfl rfl SL.out.2.2.1 SL.out.2.2.2.1 SL.out.2.2.2.2.1 ?_; rw [hW2]) | (refine wpList_load_mid rfl 93 _ rfl b2 0 rfl V _ SL.out.2.2.2.2.2 Tryz.underlying93 rfl SL.out.2.1 ?_))
        with_reducible refine AT.mono ?_
        rintro e1 w3 ⟨rfl, c3, a3, s3, o3⟩
        have X3 := Lib.hid (And.intro ((X2.out.2.1.hi s3 (.inr (Nat.le_refl _))).drop (K' := No) fun b _ e => by have := hqc b; rcases e with e | e <;> omega) o3)
        clear AT a3 s3 o3
        go_wp2_with fail
        go_ret
        exact ⟨by rw [X2.out.2.2.1, if_pos he0]; rfl, c3, X3.out⟩
    · have hil : i = l.length := by omega
      subst hil
      rw [List.drop_length] at hgo
      have hgo0 : goV 1 4611686018427387904 none l = 0 := by rw [hgo]; cases begun <;> rfl
      have X3 := Lib.hid (And.intro (st.drop (K' := No) fun b _ e => by have := hqc b; rcases e with e | e <;> omega) ok)
      have HG := Lib.hid hgo0
      clear ax sl st ok hgo hgo0
      go_wp2_with fail
      go_ret
      exact ⟨by rw [HG.out]; rfl, cr, X3.out⟩
end
end Go.Proofs.YtgcobbapaaihiaaGreat

set_option linter.unusedVariables false
set_option linter.unusedSimpArgs false
namespace Go.Proofs.YtgcobbapaaihiaaGreat
open Go.RowKit

def vB (v : Vld) : List UInt8 := v.key ++ numB v.power.toNat
theorem vB_len : ∀ {l : List Vld}, (∀ x ∈ l, x.key.length = 4) → (l.map vB).flatten.length ≤ 13 * l.length
  | [], _ => by simp
  | x :: l, h => by
    have h1 := vB_len (l := l) fun y hy => h y (by simp [hy])
    have h2 := h x (by simp)
    have h3 := numB_len x.power.toNat
    simp only [List.map_cons, List.flatten_cons, List.length_append, List.length_cons, vB]
    omega

theorem Sl.val {c : Col} {k k2 : Nat} {w : World} {v : Value} {l : List Vld} (h : Sl TVal c k k2 w v l) : ∀ x ∈ l, x.key.length = 4 ∧ IntKind.i64.has x.power := by
  intro x hx
  obtain ⟨i, hi⟩ := List.mem_iff_getElem?.1 hx
  rcases h with ⟨rfl, _⟩ | ⟨_, _, _, _, _, _, _, _, h5⟩
  · simp at hi
  · obtain ⟨vs, hr, _⟩ := h5 i x hi
    exact hr.2

section
variable {c : Col} {w : World}

theorem encodeV_bad (hok : Ok c w) {kx k2 : Nat} {v : Value} {l : List Vld} (hv : Sl TVal c kx k2 w v l) (hn : l.length ≤ 1000000000) (hc : checkV l ≠ 0) :
    Calls Tryz.prog 163 #[v] w fun r w' => r = .returned (.tuple #[.slice none 0 0, .int .i64 (checkV l)]) ∧ ∃ c', Step No c w c' w' ∧ Ok c' w' := by
  have C := vcheck_any hok hv hn
  obtain ⟨va, vc, rfl, _⟩ := hv.form
  obtain ⟨e0, he⟩ : ∃ e, checkV l = e := ⟨_, rfl⟩
  rw [he] at C hc ⊢
  have hc2 : (e0 != 0) = true := by rw [bne_iff_ne]; exact hc
  clear hv hok he
  go_enter Tryz.func163, Tryz.ntmps163
  go_wp2_with fail
  with_reducible refine C.mono ?_
  rintro e w1 ⟨rfl, c1, s1, o1⟩
  have X := Lib.hid (And.intro s1 o1)
  clear C s1 o1
  go_wp2_with fail
  go_ret2
  exact ⟨rfl, c1, X.out⟩

set_option maxRecDepth 100000 in
set_option maxHeartbeats 1600000 in
theorem encodeV_ok (hok : Ok c w) {kx kx2 : Nat} {v : Value} {l : List Vld} (hv : Sl TVal c kx kx2 w v l) (hc : checkV l = 0) (ky : Nat) :
    Calls Tryz.prog 163 #[v] w fun r w' => ∃ v', r = .returned (.tuple #[v', .int .i64 0]) ∧ ∃ c', Sl TByte c' ky 0 w' v' (encV l) ∧ Step No c w c' w' ∧ Ok c' w' := by
  obtain ⟨q, hq, hqc⟩ := hok.top (kx + kx2)
  have hq0 : q ≠ 0 := by omega
  obtain ⟨hlen0, hlen, hpow⟩ := checkV_ok hc
  have C := vcheck_any hok hv (by omega)
  rw [hc] at C
  have hval := hv.val
  obtain ⟨g, off, cap, rfl, hcap, hcm⟩ := hv.some hlen0
  have n0 : ∀ {x}, x < q → ¬ Two q (q + 1) x := fun hx h => by rcases h with h | h <;> omega
  have HL := Lib.hid (And.intro hlen (And.intro hpow hval))
  have X0 := Lib.hid hv
  clear hv hok hc hlen hpow hval
  go_enter Tryz.func163, Tryz.ntmps163
  go_wp2_with fail
  with_reducible refine C.mono ?_
  rintro e w1 ⟨rfl, c1, s1, o1⟩
  have N := newWriter_any o1 1048576 (by omega) (by omega) q (q + 1)
  have X1 := Lib.hid (And.intro (X0.out.kn s1) s1)
  clear C s1 o1 X0
  go_wp2_with fail
  with_reducible refine N.mono ?_
  rintro e w2 ⟨rfl, c2, i2, s2, o2⟩
  obtain ⟨p, hp⟩ : ∃ p, w1.heap.size = p := ⟨_, rfl⟩
  rw [hp] at i2 ⊢
  have T := num_any o2 i2 hq0 (Nat.succ_ne_zero _) (by omega) (by omega) (by simp) l.length (by have := HL.out.1; omega)
  rw [putS_fits (by have := numB_len l.length; simp; omega)] at T
  have X2 := Lib.hid (And.intro (X1.out.1.kn s2) (X1.out.2.trans s2))
  clear N i2 s2 o2 hp X1
  go_wp2_with fail
  with_reducible refine T.mono ?_
  rintro e w3 ⟨rfl, c3, i3, s3, o3⟩
  have X3 := Lib.hid (And.intro i3 (And.intro (X2.out.1.keep s3 (n0 (by omega)) (n0 (by omega))) (And.intro ((X2.out.2.ofNo).trans s3) o3)))
  clear T i3 s3 o3 X2
  go_wp2_with fail
  go_loopw [24] (fun vi wr => ∃ (i : Nat) (cr : Col), i ≤ l.length ∧ vi = .int .i64 i ∧ IsWr cr q (q + 1) wr p 1048576 (numB l.length ++ ((l.take i).map vB).flatten, 0) ∧ Sl TVal cr kx kx2 wr (.slice (some ⟨g, off, none⟩) l.length cap) l ∧ Step (Two q (q + 1)) c w cr wr ∧ Ok cr wr) (fun vi _ => l.length - (intOf vi).toNat)
  case atStart => exact ⟨0, _, Nat.zero_le _, rfl, by simpa using X3.out.1, X3.out.2⟩
  case round =>
    clear X3
    obtain ⟨i, cr, hi, rfl, iw, sl, st, ok⟩ := hrel
    by_cases hlt : i < l.length
    · obtain ⟨x, hx⟩ : ∃ x, l[i]? = some x := ⟨l[i], by simp [hlt]⟩
      obtain ⟨vs, ⟨rfl, hk4, hpw⟩, hcs⟩ := sl.at hx
      have hp1 := HL.out.2.1 x (List.mem_of_getElem? hx)
      have hlen13 : ((l.take i).map vB).flatten.length ≤ 832 := by
        have := vB_len (l := l.take i) (fun y hy => (HL.out.2.2 y (List.mem_of_mem_take hy)).1)
        have h2 : (l.take i).length ≤ 64 := by rw [List.length_take]; have := HL.out.1; omega
        omega
      obtain ⟨W2, c2, hW2, a2, o2, s2, t1, t2, t3, t4⟩ := vnew ok hk4 (show q + 2 ≠ 0 by omega)
      have hn9 := numB_len l.length
      have KY := key_any o2 (iw.kn s2) hq0 (Nat.succ_ne_zero _) (by omega) (by omega) (by simp only [List.length_append]; omega) x.key hk4
      rw [putS_fits (by simp only [List.length_append, hk4]; omega)] at KY
      have hKl : (bC x.key).length = 4 := by rw [bC_len, hk4]
      have hki : (Tryz.prog.info? 91).map (·.size) = some (bC x.key).length := by rw [info_key, hKl]
      have y4 := a2.get (i := 4) (u := .int .i64 x.power) (by unfold valC; rw [List.getElem?_append_right (by rw [hKl]; omega), hKl]; rfl)
      have akc := a2.pre.cells
      obtain ⟨b2, hb2⟩ : ∃ b, wr.heap.size = b := ⟨_, rfl⟩
      rw [hb2] at hW2 a2 t1 y4 akc
      obtain ⟨V, hV⟩ : ∃ V, valC x = V := ⟨_, rfl⟩
      rw [hV] at hW2 a2 t1 t2 t3 t4 hcs
      obtain ⟨KV, hKV⟩ : ∃ KV, bC x.key = KV := ⟨_, rfl⟩
      rw [hKV] at KY hki akc
      have SL := Lib.hid (And.intro hcs (And.intro t4 (And.intro t1 (And.intro t2 (And.intro t3 (And.intro akc hki))))))
      have X2 := Lib.hid (And.intro (sl.kn s2) (And.intro (st.trans s2.ofNo) (And.intro a2 (And.intro hp1 (And.intro hk4 (And.intro hpw (And.intro hlen13 (And.intro hx hi))))))))
      have hlt' : (i : Int) < (l.length : Int) := by omega
      have hi64 : (i : Int) < 64 := by have := HL.out.1; omega
      have hW := Lib.hid hW2
      clear hcs t1 t2 t3 t4 a2 o2 s2 iw sl st ok hV hk4 hpw hp1 hlen13 hn9 hKl hki akc hKV hx
      go_wp2_with (first | (refine wpList_load_mid rfl 93 _ rfl g (off + i * 5) rfl V _ SL.out.1 Tryz.underlying93 rfl SL.out.2.1 ?_) | (refine wpList_store_mid rfl 93 _ _ rfl b2 0 V.toArray rfl rfl SL.out.2.2.1 SL.out.2.2.2.1 SL.out.2.2.2.2.1 ?_; rw [hW2]) | (refine wpList_load_mid rfl 91 _ rfl b2 0 rfl KV _ SL.out.2.2.2.2.2.1 Tryz.underlying91 rfl SL.out.2.2.2.2.2.2 ?_))
      with_reducible refine KY.mono ?_
      rintro e1 w3 ⟨rfl, c3, i3, s3, o3⟩
      have NM := num_any o3 i3 hq0 (Nat.succ_ne_zero _) (by omega) (by omega) (by have := X2.out.2.2.2.2.2.2.1; have := X2.out.2.2.2.2.1; have := numB_len l.length; simp only [List.length_append]; omega) x.power.toNat (by have := X2.out.2.2.2.1; omega)
      rw [putS_fits (by have := X2.out.2.2.2.2.2.2.1; have := X2.out.2.2.2.2.1; have := numB_len l.length; have := numB_len x.power.toNat; simp only [List.length_append]; omega), Int.toNat_of_nonneg (by have := X2.out.2.2.2.1; omega)] at NM
      have X3 := Lib.hid (And.intro (X2.out.1.keep s3 (n0 (by omega)) (n0 (by omega))) (X2.out.2.1.trans s3))
      have z4 : w3.cell? ⟨b2, 4, none⟩ = some (.int .i64 x.power) := (s3.cell X2.out.2.2.1.lt (by rw [X2.out.2.2.1.col]; intro h; rcases h with h | h <;> omega)).trans y4
      clear KY i3 s3 o3 y4
      go_wp2_with fail
      with_reducible refine NM.mono ?_
      rintro e1 w4 ⟨rfl, c4, i4, s4, o4⟩
      have X4 := Lib.hid (And.intro i4 (And.intro (X3.out.1.keep s4 (n0 (by omega)) (n0 (by omega))) (And.intro (X3.out.2.trans s4) o4)))
      clear NM i4 s4 o4 z4
      go_wp2_with fail
      go_roundw
      case rel =>
        refine ⟨i + 1, c4, by omega, by go_num, ?_, X4.out.2⟩
        have e1 : numB l.length ++ ((l.take (i + 1)).map vB).flatten = numB l.length ++ ((l.take i).map vB).flatten ++ x.key ++ numB x.power.toNat := by
          rw [List.take_add_one, X2.out.2.2.2.2.2.2.2.1]; simp [vB]
        rw [e1]; exact X4.out.1
      case measure => simp [intOf]; omega
    · have hil : i = l.length := by omega
      subst hil
      rw [List.take_length] at iw
      have hE : numB l.length ++ (l.map vB).flatten = encV l := rfl
      rw [hE] at iw
      have hle : (encV l).length ≤ 1000000000 := by
        have := vB_len (l := l) (fun y hy => (HL.out.2.2 y hy).1)
        have := HL.out.1
        have := numB_len l.length
        rw [← hE, List.length_append]; omega
      have D := done_any ok iw rfl hle ky
      have X3 := Lib.hid (st.drop (K' := No) fun b _ e => by have := hqc b; rcases e with e | e <;> omega)
      clear iw sl st ok
      go_wp2_with fail
      with_reducible refine D.mono ?_
      rintro e1 w4 ⟨v', rfl, c4, p4, s4, o4⟩
      have X4 := Lib.hid (And.intro p4 (And.intro (X3.out.trans s4) o4))
      clear D p4 s4 o4
      go_wp2_with fail
      go_ret2
      exact ⟨v', rfl, c4, X4.out⟩
end
end Go.Proofs.YtgcobbapaaihiaaGreat

set_option linter.unusedVariables false
set_option linter.unusedSimpArgs false
namespace Go.Proofs.YtgcobbapaaihiaaGreat
open Go.RowKit

/-- What is wrong with a vote, behind a place. -/
def atC (last : Int) (v : Vot) : Int := if v.at_ < 0 ∨ 64 ≤ v.at_ then 3 else if v.at_ ≤ last then 9 else 0
theorem goC_cons (last : Int) (v : Vot) (r : List Vot) : goC last (v :: r) = if atC last v ≠ 0 then atC last v else goC v.at_ r := by
  rw [goC]
  unfold atC
  by_cases h1 : v.at_ < 0 ∨ 64 ≤ v.at_
  · rw [if_pos h1, if_pos h1]; rfl
  · rw [if_neg h1, if_neg h1]
    by_cases h2 : v.at_ ≤ last
    · rw [if_pos h2, if_pos h2]; rfl
    · rw [if_neg h2, if_neg h2]; rfl

/-- The place ahead, behind a vote. -/
def nextC (last : Int) (v : Vot) : Int := if atC last v = 0 then v.at_ else last

/-- A commit's cells. -/
def cmC (x : Cmt) (vv : Value) : List Value := .int .i64 x.height :: (bC x.hash ++ [vv])
theorem info_cmt : (Tryz.prog.info? 56).map (·.size) = some 34 := by kernel_rfl

section
variable {c : Col} {w : World}

set_option maxHeartbeats 800000 in
theorem rises1_any (hok : Ok c w) {lb k : Nat} (hk0 : k ≠ 0) (last : Int) (hx : At c w lb k [.int .i64 last]) (v : Vot) :
    Calls Tryz.prog 198 #[.agg #[.int .i64 v.at_, .int .u64 v.sig], .pointer (some ⟨lb, 0, none⟩)] w fun r w' => r = .returned (.int .i64 (atC last v)) ∧
      ∃ c', At c' w' lb k [.int .i64 (nextC last v)] ∧ Step (One k) c w c' w' ∧ Ok c' w' := by
  obtain ⟨p, s⟩ := v
  have s0 : Step No c w c (w.alloc (.cells #[.int .i64 p, .int .u64 s] 106)) := Step.refl.alloc _
  have x0 := hx.keep s0 (fun h => h)
  have o0 := hok.alloc (.cells #[.int .i64 p, .int .u64 s] 106)
  have y0 := x0.c0
  have yf := x0.fz o0 hk0 0
  have hlw := hx.lt
  have X := Lib.hid (And.intro x0 (And.intro (s0.ofNo (K := One k)) o0))
  have XO := Lib.hid (And.intro hx hok)
  clear s0 x0 o0 hx hok
  by_cases h1 : p < 0
  · have ha : atC last ⟨p, s⟩ = 3 := by unfold atC; rw [if_pos (.inl h1)]
    have hb : nextC last ⟨p, s⟩ = last := by unfold nextC; rw [ha]; rfl
    rw [ha, hb]
    go_enter Tryz.func198, Tryz.ntmps198
    go_wp2_with fail
    go_ret
    exact ⟨rfl, c, X.out⟩
  · by_cases h2 : 64 ≤ p
    · have ha : atC last ⟨p, s⟩ = 3 := by unfold atC; rw [if_pos (.inr h2)]
      have hb : nextC last ⟨p, s⟩ = last := by unfold nextC; rw [ha]; rfl
      rw [ha, hb]
      go_enter Tryz.func198, Tryz.ntmps198
      go_wp2_with fail
      go_ret
      exact ⟨rfl, c, X.out⟩
    · by_cases h3 : p ≤ last
      · have ha : atC last ⟨p, s⟩ = 9 := by unfold atC; rw [if_neg (by simp; omega), if_pos h3]
        have hb : nextC last ⟨p, s⟩ = last := by unfold nextC; rw [ha]; rfl
        rw [ha, hb]
        go_enter Tryz.func198, Tryz.ntmps198
        go_wp2_with fail
        go_ret
        exact ⟨rfl, c, X.out⟩
      · have ha : atC last ⟨p, s⟩ = 0 := by unfold atC; rw [if_neg (by simp; omega), if_neg h3]
        have hb : nextC last ⟨p, s⟩ = p := by unfold nextC; rw [ha]; rfl
        rw [ha, hb]
        go_enter Tryz.func198, Tryz.ntmps198
        go_wp2_with fail
        go_ret
        exact ⟨rfl, c, XO.out.1.set0.keep (Step.al _) (fun h => h), ((Step.refl (K := One k)).setCell (a := ⟨lb, 0, none⟩) (.inr XO.out.1.col) _).alloc _, (XO.out.2.setCell _ _).alloc _⟩

theorem rises_any (hok : Ok c w) (k : Nat) :
    Calls Tryz.prog 173 #[] w fun r w' => r = .returned (.func (.func 198) #[] #[.pointer (some ⟨w.heap.size, 0, none⟩)]) ∧
      ∃ c', At c' w' w.heap.size k [.int .i64 (-1)] ∧ Step No c w c' w' ∧ Ok c' w' := by
  obtain ⟨a, o, s⟩ := newAt hok [.int .i64 (-1)] 3 k
  have hmf : ∀ (fn : Fn) (first cap : Array Value) (w : World), (Instr.makeFunc fn first cap).run Tryz.prog w = .ok (.func fn first cap) w := fun _ _ _ _ => rfl
  have X := Lib.hid (And.intro a (And.intro s o))
  clear a s o hok
  go_enter Tryz.func173, Tryz.ntmps173
  go_wp2_with fail
  go_ret
  exact ⟨rfl, _, X.out⟩

theorem cmC_len {x : Cmt} (hh : x.hash.length = 32) (vv : Value) : (cmC x vv).length = 34 := by simp [cmC, bC_len, hh]
theorem cmC_get {c : Col} {w : World} {b k : Nat} {x : Cmt} (hh : x.hash.length = 32) {vv : Value} (a : At c w b k (cmC x vv)) : w.cell? ⟨b, 0, none⟩ = some (.int .i64 x.height) ∧ CellsAt w b 1 (bC x.hash) ∧ w.cell? ⟨b, 33, none⟩ = some vv := by
  have h0 : CellsAt w b 0 ([.int .i64 x.height] ++ (bC x.hash ++ [vv])) := a.cells
  have h1 := (cells_app h0).2
  refine ⟨a.get (i := 0) rfl, (cells_app h1).1, ?_⟩
  have h2 := (cells_app h1).2 0 vv rfl
  simpa [bC_len, hh] using h2

set_option maxRecDepth 100000 in
set_option maxHeartbeats 1600000 in
theorem ccheck_any (hok : Ok c w) (x : Cmt) (hh : x.hash.length = 32) {vv : Value} {kx k2 : Nat} (hv : Sl TVot c kx k2 w vv x.votes) (hn : x.votes.length ≤ 1000000000) :
    Calls Tryz.prog 143 #[.agg (cmC x vv).toArray] w fun r w' => r = .returned (.int .i64 (checkC x)) ∧ ∃ c', Step No c w c' w' ∧ Ok c' w' := by
  obtain ⟨va, vc, rfl, _⟩ := hv.form
  have a0 := At.new0 hok (cmC x (.slice va x.votes.length vc)) 56
  have o0 := hok.alloc (.cells (cmC x (.slice va x.votes.length vc)).toArray 56)
  have s0 : Step No c w c (w.alloc (.cells (cmC x (.slice va x.votes.length vc)).toArray 56)) := Step.refl.alloc _
  obtain ⟨y0, _, y33⟩ := cmC_get hh a0
  obtain ⟨B, hB⟩ : ∃ B, cmC x (.slice va x.votes.length vc) = B := ⟨_, rfl⟩
  rw [hB] at a0 o0 s0 y0 y33 ⊢
  obtain ⟨xb, hxb⟩ : ∃ b, w.heap.size = b := ⟨_, rfl⟩
  rw [hxb] at a0 y0 y33
  obtain ⟨W0, hW0⟩ : ∃ W, w.alloc (.cells B.toArray 56) = W := ⟨_, rfl⟩
  rw [hW0] at a0 o0 s0 y0 y33
  by_cases h1 : x.height < 1
  · have hc : checkC x = 3 := by unfold checkC; rw [if_pos (.inl h1)]
    rw [hc]
    have X := Lib.hid (And.intro s0 o0)
    clear hv hok a0 o0 s0 hc
    go_enter Tryz.func143, Tryz.ntmps143
    go_wp2_with fail
    go_ret
    exact ⟨rfl, c, X.out⟩
  by_cases h2 : 1073741824 < x.height
  · have hc : checkC x = 3 := by unfold checkC; rw [if_pos (.inr h2)]
    rw [hc]
    have X := Lib.hid (And.intro s0 o0)
    clear hv hok a0 o0 s0 hc
    go_enter Tryz.func143, Tryz.ntmps143
    go_wp2_with fail
    go_ret
    exact ⟨rfl, c, X.out⟩
  have h12 : ¬ (x.height < 1 ∨ 1073741824 < x.height) := by omega
  by_cases h64 : 64 < x.votes.length
  · have hc : checkC x = 4 := by unfold checkC; rw [if_neg h12, if_pos h64]
    have h64' : (64 : Int) < (x.votes.length : Int) := by omega
    rw [hc]
    have X := Lib.hid (And.intro s0 o0)
    clear hv hok a0 o0 s0 hc
    go_enter Tryz.func143, Tryz.ntmps143
    go_wp2_with fail
    go_ret
    exact ⟨rfl, c, X.out⟩
  have hc : checkC x = goC (-1) x.votes := by unfold checkC; rw [if_neg h12, if_neg h64]
  rw [hc]
  obtain ⟨q, hq, hqc⟩ := o0.top (kx + k2)
  have hq0 : q ≠ 0 := by omega
  have h64' : ¬ (64 : Int) < (x.votes.length : Int) := by omega
  have RS := rises_any o0 q
  obtain ⟨l, hl⟩ : ∃ l, x.votes = l := ⟨_, rfl⟩
  rw [hl] at h64 h64' y33 hv hn hc ⊢
  have X0 := Lib.hid (And.intro (hv.kn s0) (And.intro s0 (And.intro a0 h64)))
  clear hv hok a0 o0 s0 hc hl
  go_enter Tryz.func143, Tryz.ntmps143
  go_wp2_with fail
  (try rw [hW0])
  with_reducible refine RS.mono ?_
  rintro e w1 ⟨rfl, c1, a1, s1, o1⟩
  obtain ⟨lb, hlb⟩ : ∃ b, W0.heap.size = b := ⟨_, rfl⟩
  rw [hlb] at a1 ⊢
  have z33 : w1.cell? ⟨xb, 33, none⟩ = some (.slice va l.length vc) := (s1.cell X0.out.2.2.1.lt (fun h => h)).trans y33
  have X1 := Lib.hid (And.intro a1 (And.intro (X0.out.1.kn s1) (And.intro (X0.out.2.1.trans s1) o1)))
  clear RS a1 s1 o1 y0 y33
  go_wp2_with fail
  go_loopw [25] (fun vi wr => ∃ (i : Nat) (cr : Col) (last : Int), i ≤ l.length ∧ vi = .int .i64 i ∧ goC (-1) l = goC last (l.drop i) ∧ At cr wr lb q [.int .i64 last] ∧ Sl TVot cr kx k2 wr (.slice va l.length vc) l ∧ Step (Hi q q) c w cr wr ∧ Ok cr wr) (fun vi _ => l.length - (intOf vi).toNat)
  case atStart => exact ⟨0, _, -1, Nat.zero_le _, rfl, by rw [List.drop_zero], X1.out.1, X1.out.2.1, X1.out.2.2.1.ofNo, X1.out.2.2.2⟩
  case round =>
    clear X1
    obtain ⟨i, cr, last, hi, rfl, hgo, ax, sl, st, ok⟩ := hrel
    by_cases hlt : i < l.length
    · obtain ⟨u, hu⟩ : ∃ u, l[i]? = some u := ⟨l[i], by simp [hlt]⟩
      have hdr : l.drop i = u :: l.drop (i + 1) := by rw [List.drop_eq_getElem_cons hlt]; rw [List.getElem?_eq_getElem hlt] at hu; injection hu with hu; rw [hu]
      obtain ⟨g, off, cap, e, hcap, hcm⟩ := sl.some (by omega)
      injection e with e1 _ e2
      subst e1 e2
      obtain ⟨vs, ⟨rfl, hat, hsg⟩, hcs⟩ := sl.at hu
      have y0 := hcs.get 0 rfl
      have y1 := hcs.get 1 rfl
      simp only [TVot, Nat.add_zero] at y0 y1
      have hgo2 : goC (-1) l = if atC last u ≠ 0 then atC last u else goC u.at_ (l.drop (i + 1)) := by rw [hgo, hdr, goC_cons]
      have s2 : Step No cr wr cr (wr.alloc (.cells #[.int .i64 u.at_, .int .u64 u.sig] 106)) := Step.refl.alloc _
      have R1 := rises1_any (ok.alloc _) hq0 last (ax.keep s2 (fun h => h)) u
      obtain ⟨e, he⟩ : ∃ e, atC last u = e := ⟨_, rfl⟩
      rw [he] at R1 hgo2
      have X2 := Lib.hid (And.intro (sl.kn s2) (And.intro (st.trans s2.ofNo) (And.intro hgo2 he)))
      have hlt' : (i : Int) < (l.length : Int) := by omega
      obtain ⟨p, s⟩ := u
      clear hcs s2 ax sl st ok hgo hgo2 hdr hu he hsg
      by_cases he0 : e = 0
      · subst he0
        go_wp2_with fail
        with_reducible refine R1.mono ?_
        rintro e1 w3 ⟨rfl, c3, a3, s3, o3⟩
        have X3 := Lib.hid (And.intro a3 (And.intro (X2.out.1.keep s3 (show ¬ kx = q by omega) (show ¬ k2 = q by omega)) (And.intro (X2.out.2.1.hi s3 (.inr (Nat.le_refl _))) o3)))
        clear R1 a3 s3 o3
        go_wp2_with fail
        go_roundw
        case rel =>
          have hnx : nextC last ⟨p, s⟩ = p := by unfold nextC; rw [X2.out.2.2.2]; rfl
          refine ⟨i + 1, c3, p, by omega, by go_num, ?_, by rw [← hnx]; exact X3.out.1, X3.out.2⟩
          rw [X2.out.2.2.1, if_neg (by simp)]
        case measure => simp [intOf]; omega
      · have he0' : (e != 0) = true := by rw [bne_iff_ne]; exact he0
        go_wp2_with fail
        with_reducible refine R1.mono ?_
        rintro e1 w3 ⟨rfl, c3, a3, s3, o3⟩
        have X3 := Lib.hid (And.intro ((X2.out.2.1.hi s3 (.inr (Nat.le_refl _))).drop (K' := No) fun b _ e => by have := hqc b; rcases e with e | e <;> omega) o3)
        clear R1 a3 s3 o3
        go_wp2_with fail
        go_ret
        exact ⟨by rw [X2.out.2.2.1, if_pos he0]; rfl, c3, X3.out⟩
    · have hil : i = l.length := by omega
      subst hil
      rw [List.drop_length] at hgo
      have X3 := Lib.hid (And.intro (st.drop (K' := No) fun b _ e => by have := hqc b; rcases e with e | e <;> omega) ok)
      have HG := Lib.hid (show goC (-1) l = 0 by rw [hgo]; rfl)
      clear ax sl st ok hgo
      go_wp2_with fail
      go_ret
      exact ⟨by rw [HG.out]; rfl, cr, X3.out⟩
end
end Go.Proofs.YtgcobbapaaihiaaGreat
