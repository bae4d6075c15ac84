/- ServerKnown, part 18: lemmas, each with its own conditions. -/
import Derived.Test.YtgcobbapaaihiaaGreatSk12
import Derived.Test.YtgcobbapaaihiaaGreatSk17
set_option linter.unusedVariables false
set_option linter.unusedSimpArgs false
namespace Go.Proofs.YtgcobbapaaihiaaGreat
open Go.RowKit

theorem WdsM.p0 {c : Col} {w : World} {b k : Nat} {x u : Value} (h : WdsM c w b k [x] [u] 8) : w.cell? ⟨b, 0, none⟩ = some x := by obtain ⟨l, hl, _, a⟩ := h.at_; exact a.get (i := 0) rfl
theorem WdsM.p9 {c : Col} {w : World} {b k : Nat} {x u : Value} (h : WdsM c w b k [x] [u] 8) : w.cell? ⟨b, 9, none⟩ = some u := by
  obtain ⟨l, hl, _, a⟩ := h.at_
  exact a.get (i := 9) (by rw [List.getElem?_append_right (by simp), List.getElem?_append_right (by simp [u32C_len, hl])]; simp [u32C_len, hl])
theorem WdsM.set9 {c : Col} {w : World} {b k : Nat} {x u : Value} (h : WdsM c w b k [x] [u] 8) (u' : Value) : WdsM c (w.setCell ⟨b, 9, none⟩ u') b k [x] [u'] 8 := by
  obtain ⟨l, hl, hx, a⟩ := h.at_
  have := a.setN (i := 9) (by simp [u32C_len, hl]) u'
  rw [List.set_append_right _ _ (by simp), List.set_append_right _ _ (by simp [u32C_len, hl])] at this
  refine ⟨l, hl, hx, ?_⟩
  rw [show ([u].set (9 - [x].length - (u32C l).length) u') = [u'] by simp [u32C_len, hl]] at this
  exact this

/-- The length of what is not a block yet. -/
def restLen (p : Nat) (w : World) : Nat := match w.cell? ⟨p, 9, none⟩ with | some (.slice _ n _) => n | _ => 0
theorem restLen_eq {p : Nat} {w : World} {a : Option Addr} {n cap : Nat} (h : w.cell? ⟨p, 9, none⟩ = some (.slice a n cap)) : restLen p w = n := by unfold restLen; rw [h]

section
variable {c : Col} {w : World}

set_option maxRecDepth 100000 in
set_option maxHeartbeats 3200000 in
theorem write_any (hok : Ok c w) {p pc k kc : Nat} (kb : Nat) {K : Nat → Prop} (hK1 : K k) (hK2 : K kc) (hK3 : K kb) (hk0 : k ≠ 0) (hc0 : kc ≠ 0) (hkc : k ≠ kc) (hb0 : kb ≠ 0) (hkb : kb ≠ k) (hkbc : kb ≠ kc)
    (hc : At c w pc kc [.int .i64 0]) (hp : WdsM c w p k [.pointer (some ⟨pc, 0, none⟩)] [.slice none 0 0] 8) {v : Value} {kx : Nat} {l : List UInt8} (hv : Sl TByte c kx 0 w v l) (hl : l.length ≤ 1000000) :
    Calls Tryz.prog 192 #[.pointer (some ⟨p, 0, none⟩), v] w fun r w' => r = .returned (.int .i64 0) ∧ ∃ c' n rv r', At c' w' pc kc [.int .i64 (n : Nat)] ∧ WdsM c' w' p k [.pointer (some ⟨pc, 0, none⟩)] [rv] 8 ∧ Sl TByte c' kb 0 w' rv r' ∧
      r'.length ≤ 64 ∧ n + r'.length = l.length ∧ n % 64 = 0 ∧ Step K c w c' w' ∧ Ok c' w' := by
  have N := none_any hp.p0
  have y9 := hp.p9
  have hml : ([] : List UInt8).length + l.length ≤ maxLen := by simp [maxLen]; omega
  have hbl : (([] : List UInt8).length + l.length) * 1 ≤ 140737488355328 := by simp; omega
  have hb1 : 0 ≠ kb := fun e => hb0 e.symm
  have hO := Own.nil TByte 5 c kb 0 w
  obtain ⟨va, vc, rfl, _⟩ := hv.form
  have X0 := Lib.hid (And.intro hc hp)
  clear hc hp
  go_enter Tryz.func192, Tryz.ntmps192
  go_wp2_with fail
  with_reducible refine N.mono ?_
  rintro e w1 ⟨rfl, rfl⟩
  clear N
  go_wp2_with (at_builtin; refine wpList_app TByte hok rfl _ _ 26 rfl 5 Tryz.underlying26 infoU8 rfl (by decide) rfl rfl hO hv hb1 hml hbl ?_; rintro v2 w2 c2 b1 b2 b3 -; rw [List.nil_append] at b1; obtain ⟨va2, vc2, rfl, _⟩ := b1.sl.form; have p2 := X0.out.2.keep b2 (show ¬ k = kb by omega); have q2 := X0.out.1.keep b2 (show ¬ kc = kb by omega); have z9 := p2.p9; have zf := b3.soft p 9 (by rw [p2.col]; exact hk0); have X2 := Lib.hid (And.intro b1 (And.intro b2 (And.intro b3 (And.intro p2 q2)))); clear b1 b2 b3 p2 q2)
  have hpp : ∀ {cr : Col} {wr : World} {n : Int} {u : Value}, At cr wr pc kc [.int .i64 n] → WdsM cr wr p k [.pointer (some ⟨pc, 0, none⟩)] [u] 8 → pc ≠ p := fun a b e => by have e1 := a.col; have e2 := b.col; rw [e, e2] at e1; exact hkc e1
  have st9 : ∀ (cr : Col) (wr : World) (n : Int) (u rv : Value) (r : List UInt8) (u' : Value), At cr wr pc kc [.int .i64 n] → WdsM cr wr p k [.pointer (some ⟨pc, 0, none⟩)] [u] 8 → Sl TByte cr kb 0 wr rv r → Step K c w1 cr wr → Ok cr wr →
      At cr (wr.setCell ⟨p, 9, none⟩ u') pc kc [.int .i64 n] ∧ WdsM cr (wr.setCell ⟨p, 9, none⟩ u') p k [.pointer (some ⟨pc, 0, none⟩)] [u'] 8 ∧ Sl TByte cr kb 0 (wr.setCell ⟨p, 9, none⟩ u') rv r ∧ Step K c w1 cr (wr.setCell ⟨p, 9, none⟩ u') ∧ Ok cr (wr.setCell ⟨p, 9, none⟩ u') :=
    fun cr wr n u rv r u' a b s st ok => ⟨a.offC p 9 _ (hpp a b), b.set9 u', s.set (a := ⟨p, 9, none⟩) (by show _ ≠ _; rw [b.col]; omega) (by show _ ≠ _; rw [b.col]; exact hk0) _,
      st.trans (((Step.refl (K := One k)).setCell (a := ⟨p, 9, none⟩) (.inr b.col) _).mono fun j (e : j = k) => by rw [e]; exact hK1), ok.setCell _ _⟩
  have X3 := Lib.hid (st9 _ _ _ _ _ _ (.slice va2 l.length vc2) X2.out.2.2.2.2 X2.out.2.2.2.1 X2.out.1.sl (X2.out.2.1.mono fun j (e : j = kb) => by rw [e]; exact hK3) X2.out.2.2.1)
  have ST := Lib.hid st9
  clear X2 z9 zf hO hpp st9 X0
  go_loopw [] (fun wr => ∃ (n : Nat) (r : List UInt8) (cr : Col) (rv : Value), n + r.length = l.length ∧ n % 64 = 0 ∧ At cr wr pc kc [.int .i64 n] ∧ WdsM cr wr p k [.pointer (some ⟨pc, 0, none⟩)] [rv] 8 ∧ Sl TByte cr kb 0 wr rv r ∧ Step K c w1 cr wr ∧ Ok cr wr) (fun wr => restLen p wr)
  case atStart => exact ⟨0, l, c2, _, by omega, rfl, X3.out⟩
  case round =>
    clear X3
    obtain ⟨n, r, cr, rv, hnr, hn64, ac, ap, sl, st, ok⟩ := hrel
    by_cases h64 : 64 < r.length
    · obtain ⟨g, off, cap, rfl, hcap, hcm⟩ := sl.some (by omega)
      have y9 := ap.p9
      have h64' : (64 : Int) < (r.length : Int) := by omega
      have hm : restLen p wr = r.length := restLen_eq y9
      have y0 := ap.p0
      have hc64 : ¬ cap = 64 := by omega
      have hc1 : (64 : Int) ≤ (cap : Int) := by omega
      have T := take_any (n : Int) 64 ac ok hc0 (by omega) (by omega) (by omega) (by omega)
      have X := Lib.hid (And.intro ap (And.intro sl (And.intro st hm)))
      clear ac ap sl st ok hm
      go_wp2_with fail
      with_reducible refine T.mono ?_
      rintro e w4 ⟨rfl, a4, s4, o4⟩
      clear T
      have p4 := X.out.1.keep s4 (show ¬ k = kc from hkc)
      have l4 := X.out.2.1.keep s4 (show ¬ kb = kc from hkbc) (show ¬ 0 = kc by omega)
      have st4 := X.out.2.2.1.trans (s4.mono fun j (e : j = kc) => by rw [e]; exact hK2)
      have z0 := p4.p0
      have z9 := p4.p9
      have zc := a4.c0
      have ls := l4.sub 0 64 (by omega)
      have BK := block_any (o4.drewN 1) (pre := [.pointer (some ⟨pc, 0, none⟩)]) (o := 1) rfl (p4.keep (Step.rf.drewN (K := No) 1) (fun h => h)) hk0 (ls.kn (Step.rf.drewN 1)) hkb (by simp; omega) ((n : Int) + 64) false
      rw [Nat.add_zero, Nat.sub_zero] at BK
      have KK : (fun W : World => W.cell? ⟨p, 0, none⟩ = some (.pointer (some ⟨pc, 0, none⟩)) ∧ W.cell? ⟨p, 9, none⟩ = some (.slice (some ⟨g, off, none⟩) r.length cap) ∧ W.cell? ⟨pc, 0, none⟩ = some (.int .i64 ((n : Int) + 64))) w4.drew := ⟨z0, z9, zc⟩
      have XX := Lib.hid (And.intro a4 (And.intro p4 (And.intro l4 (And.intro st4 o4))))
      clear s4 o4 a4 p4 l4 st4 ls z0 z9 zc
      go_wp2_with fail
      refine region_planM (fun W => W.cell? ⟨p, 0, none⟩ = some (.pointer (some ⟨pc, 0, none⟩)) ∧ W.cell? ⟨p, 9, none⟩ = some (.slice (some ⟨g, off, none⟩) r.length cap) ∧ W.cell? ⟨pc, 0, none⟩ = some (.int .i64 ((n : Int) + 64))) (fun _ => true) (by kernel_rfl) ?_
      refine wpAnyM.takeT (i := 0) (v := _) (some 27) rfl rfl (by kernel_rfl) (by kernel_rfl) (by kernel_rfl) (by kernel_rfl) (by kernel_rfl) (fun _ _ _ h => h) (Or.inl ⟨by rfl, fun W hW => by first | (obtain ⟨q0, q1, q2⟩ := hW; go_simp <;> rfl) | (obtain ⟨q0, q1, q2⟩ := hW; go_simp; done)⟩) KK ?_
      (try simp only [Act.put, List.setIfInBounds_toArray, List.set_cons_zero, List.set_cons_succ])
      refine wpAnyM.takeT (i := 1) (v := _) (some 28) rfl rfl (by kernel_rfl) (by kernel_rfl) (by kernel_rfl) (by kernel_rfl) (by kernel_rfl) (fun _ _ _ h => h) (Or.inl ⟨by rfl, fun W hW => by first | (obtain ⟨q0, q1, q2⟩ := hW; go_simp <;> rfl) | (obtain ⟨q0, q1, q2⟩ := hW; go_simp; done)⟩) KK ?_
      (try simp only [Act.put, List.setIfInBounds_toArray, List.set_cons_zero, List.set_cons_succ])
      refine wpAnyM.takeT (i := 2) (v := _) (some 29) rfl rfl (by kernel_rfl) (by kernel_rfl) (by kernel_rfl) (by kernel_rfl) (by kernel_rfl) (fun _ _ _ h => h) (Or.inl ⟨by rfl, fun W hW => by first | (obtain ⟨q0, q1, q2⟩ := hW; go_simp <;> rfl) | (obtain ⟨q0, q1, q2⟩ := hW; go_simp; done)⟩) KK ?_
      (try simp only [Act.put, List.setIfInBounds_toArray, List.set_cons_zero, List.set_cons_succ])
      refine wpAnyM.takeT (i := 3) (v := _) (some 30) rfl rfl (by kernel_rfl) (by kernel_rfl) (by kernel_rfl) (by kernel_rfl) (by kernel_rfl) (fun _ _ _ h => h) (Or.inl ⟨by rfl, fun W hW => by first | (obtain ⟨q0, q1, q2⟩ := hW; go_simp <;> rfl) | (obtain ⟨q0, q1, q2⟩ := hW; go_simp; done)⟩) KK ?_
      (try simp only [Act.put, List.setIfInBounds_toArray, List.set_cons_zero, List.set_cons_succ])
      refine wpAnyM.takeT (i := 4) (v := _) (some 31) rfl rfl (by kernel_rfl) (by kernel_rfl) (by kernel_rfl) (by kernel_rfl) (by kernel_rfl) (fun _ _ _ h => h) (Or.inl ⟨by rfl, fun W hW => by first | (obtain ⟨q0, q1, q2⟩ := hW; go_simp <;> rfl) | (obtain ⟨q0, q1, q2⟩ := hW; go_simp; done)⟩) KK ?_
      (try simp only [Act.put, List.setIfInBounds_toArray, List.set_cons_zero, List.set_cons_succ])
      refine wpAnyM.takeT (i := 5) (v := _) (some 32) rfl rfl (by kernel_rfl) (by kernel_rfl) (by kernel_rfl) (by kernel_rfl) (by kernel_rfl) (fun _ _ _ h => h) (Or.inl ⟨by rfl, fun W hW => by first | (obtain ⟨q0, q1, q2⟩ := hW; go_simp <;> rfl) | (obtain ⟨q0, q1, q2⟩ := hW; go_simp; done)⟩) KK ?_
      (try simp only [Act.put, List.setIfInBounds_toArray, List.set_cons_zero, List.set_cons_succ])
      refine wpAnyM.takeT (i := 6) (v := _) (some 33) rfl rfl (by kernel_rfl) (by kernel_rfl) (by kernel_rfl) (by kernel_rfl) (by kernel_rfl) (fun _ _ _ h => h) (Or.inl ⟨by rfl, fun W hW => by first | (obtain ⟨q0, q1, q2⟩ := hW; go_simp <;> rfl) | (obtain ⟨q0, q1, q2⟩ := hW; go_simp; done)⟩) KK ?_
      (try simp only [Act.put, List.setIfInBounds_toArray, List.set_cons_zero, List.set_cons_succ])
      refine wpAnyM.takeT (i := 7) (v := _) (some 34) rfl rfl (by kernel_rfl) (by kernel_rfl) (by kernel_rfl) (by kernel_rfl) (by kernel_rfl) (fun _ _ _ h => h) (Or.inl ⟨by rfl, fun W hW => by first | (obtain ⟨q0, q1, q2⟩ := hW; go_simp <;> rfl) | (obtain ⟨q0, q1, q2⟩ := hW; go_simp; done)⟩) KK ?_
      (try simp only [Act.put, List.setIfInBounds_toArray, List.set_cons_zero, List.set_cons_succ])
      refine wpAnyM.takeT (i := 8) (v := _) (some 35) rfl rfl (by kernel_rfl) (by kernel_rfl) (by kernel_rfl) (by kernel_rfl) (by kernel_rfl) (fun _ _ _ h => h) (Or.inl ⟨by rfl, fun W hW => by first | (obtain ⟨q0, q1, q2⟩ := hW; go_simp <;> rfl) | (obtain ⟨q0, q1, q2⟩ := hW; go_simp; done)⟩) KK ?_
      (try simp only [Act.put, List.setIfInBounds_toArray, List.set_cons_zero, List.set_cons_succ])
      refine wpAnyM.takeT (i := 9) (v := _) (some 36) rfl rfl (by kernel_rfl) (by kernel_rfl) (by kernel_rfl) (by kernel_rfl) (by kernel_rfl) (fun _ _ _ h => h) (Or.inl ⟨by rfl, fun W hW => by first | (obtain ⟨q0, q1, q2⟩ := hW; go_simp <;> rfl) | (obtain ⟨q0, q1, q2⟩ := hW; go_simp; done)⟩) KK ?_
      (try simp only [Act.put, List.setIfInBounds_toArray, List.set_cons_zero, List.set_cons_succ])
      refine wpAnyM.takeT (i := 10) (v := _) (some 37) rfl rfl (by kernel_rfl) (by kernel_rfl) (by kernel_rfl) (by kernel_rfl) (by kernel_rfl) (fun _ _ _ h => h) (Or.inl ⟨by rfl, fun W hW => by first | (obtain ⟨q0, q1, q2⟩ := hW; go_simp <;> rfl) | (obtain ⟨q0, q1, q2⟩ := hW; go_simp; done)⟩) KK ?_
      (try simp only [Act.put, List.setIfInBounds_toArray, List.set_cons_zero, List.set_cons_succ])
      refine wpAnyM.takeT (i := 11) (v := _) (some 38) rfl rfl (by kernel_rfl) (by kernel_rfl) (by kernel_rfl) (by kernel_rfl) (by kernel_rfl) (fun _ _ _ h => h) (Or.inl ⟨by rfl, fun W hW => by first | (obtain ⟨q0, q1, q2⟩ := hW; go_simp <;> rfl) | (obtain ⟨q0, q1, q2⟩ := hW; go_simp; done)⟩) KK ?_
      (try simp only [Act.put, List.setIfInBounds_toArray, List.set_cons_zero, List.set_cons_succ])
      refine wpAnyM.takeT (i := 12) (v := _) (some 39) rfl rfl (by kernel_rfl) (by kernel_rfl) (by kernel_rfl) (by kernel_rfl) (by kernel_rfl) (fun _ _ _ h => h) (Or.inl ⟨by rfl, fun W hW => by first | (obtain ⟨q0, q1, q2⟩ := hW; go_simp <;> rfl) | (obtain ⟨q0, q1, q2⟩ := hW; go_simp; done)⟩) KK ?_
      (try simp only [Act.put, List.setIfInBounds_toArray, List.set_cons_zero, List.set_cons_succ])
      refine wpAnyM.takeT (i := 13) (v := _) (some 40) rfl rfl (by kernel_rfl) (by kernel_rfl) (by kernel_rfl) (by kernel_rfl) (by kernel_rfl) (fun _ _ _ h => h) (Or.inl ⟨by rfl, fun W hW => by first | (obtain ⟨q0, q1, q2⟩ := hW; go_simp <;> rfl) | (obtain ⟨q0, q1, q2⟩ := hW; go_simp; done)⟩) KK ?_
      (try simp only [Act.put, List.setIfInBounds_toArray, List.set_cons_zero, List.set_cons_succ])
      refine wpAnyM.takeT (i := 14) (v := _) (some 41) rfl rfl (by kernel_rfl) (by kernel_rfl) (by kernel_rfl) (by kernel_rfl) (by kernel_rfl) (fun _ _ _ h => h) (Or.inl ⟨by rfl, fun W hW => by first | (obtain ⟨q0, q1, q2⟩ := hW; go_simp <;> rfl) | (obtain ⟨q0, q1, q2⟩ := hW; go_simp; done)⟩) KK ?_
      (try simp only [Act.put, List.setIfInBounds_toArray, List.set_cons_zero, List.set_cons_succ])
      refine wpAnyM.one (i := 15) (by kernel_rfl) rfl (fun KQ hK => ?_)
      go_simp
      refine BK.mono ?_
      rintro e w5 ⟨rfl, c5, p5, s5, o5⟩
      have a5 := (XX.out.1.keep (Step.rf.drewN (K := No) 1) (fun h => h)).keep s5 (show ¬ kc = k from fun e => hkc e.symm)
      have l5 := (XX.out.2.2.1.kn (Step.rf.drewN 1)).keep s5 (show ¬ kb = k from hkb) (show ¬ 0 = k by omega)
      have st5 := (XX.out.2.2.2.1.drewN 1).trans (s5.mono fun j (e : j = k) => by rw [e]; exact hK1)
      have KK : (fun W : World => W.cell? ⟨p, 0, none⟩ = some (.pointer (some ⟨pc, 0, none⟩)) ∧ W.cell? ⟨p, 9, none⟩ = some (.slice (some ⟨g, off, none⟩) r.length cap) ∧ W.cell? ⟨pc, 0, none⟩ = some (.int .i64 ((n : Int) + 64))) w5 := ⟨p5.p0, p5.p9, a5.c0⟩
      have zf := o5.soft p 9 (by rw [p5.col]; exact hk0)
      have z9 := p5.p9
      have X5 := Lib.hid (And.intro a5 (And.intro p5 (And.intro l5 (And.intro st5 o5))))
      clear a5 p5 s5 o5 l5 st5
      go_simp
      refine hK.out _ _ (fun _ => KK) ?_
      clear hK KQ
      (try simp only [Act.put, List.setIfInBounds_toArray, List.set_cons_zero, List.set_cons_succ])
      refine wpAnyM.done (by kernel_rfl) ?_ _
      clear BK KK XX
      go_wp2_with fail
      go_roundw
      case rel =>
        obtain ⟨a5, p5, l5, st5, o5⟩ := X5.out
        have l6 := l5.sub 64 (r.length - 64) (by omega)
        rw [List.take_of_length_le (by simp)] at l6
        have F := ST.out _ _ _ _ _ _ (.slice (some ⟨g, off + 64, none⟩) (r.length - 64) (cap - 64)) a5 p5 l6 st5 o5
        exact ⟨n + 64, r.drop 64, c5, _, by simp; omega, by omega, by simpa using F.1, F.2⟩
      case measure =>
        rw [X.out.2.2.2]
        have F := ST.out _ _ _ _ _ _ (.slice (some ⟨g, off + 64, none⟩) (r.length - 64) (cap - 64)) X5.out.1 X5.out.2.1 X5.out.2.2.1 X5.out.2.2.2.1 X5.out.2.2.2.2
        rw [restLen_eq F.2.1.p9]
        omega
    · obtain ⟨va3, vc3, rfl, _⟩ := sl.form
      have y9 := ap.p9
      have h64' : ¬ (64 : Int) < (r.length : Int) := by omega
      have X := Lib.hid (And.intro ac (And.intro ap (And.intro sl (And.intro (show r.length ≤ 64 by omega) (And.intro hnr (And.intro hn64 (And.intro st ok)))))))
      clear ac ap sl st ok
      go_wp2_with fail
      go_ret
      first | exact ⟨rfl, cr, n, _, r, X.out⟩ | exact ⟨rfl, cr, n, X.out.1, _, X.out.2.1, r, X.out.2.2⟩

set_option maxRecDepth 100000 in
set_option maxHeartbeats 1600000 in
/-- blake.Sum: some hash. -/
theorem hsum_any (hok : Ok c w) {v : Value} {kx : Nat} {l : List UInt8} (hv : Sl TByte c kx 0 w v l) (hl : l.length ≤ 1000000) (h64 : l.length % 64 ≠ 0) :
    Calls Tryz.prog 164 #[v] w fun r w' => ∃ h : List UInt8, h.length = 32 ∧ r = .returned (.agg (bC h).toArray) ∧ ∃ c', Step No c w c' w' ∧ Ok c' w' := by
  obtain ⟨q, hq, hqc⟩ := hok.top kx
  have hq0 : q ≠ 0 := by omega
  obtain ⟨ao, oo, so⟩ := newAt hok (bC (List.replicate 32 0)) 51 (q + 3)
  rw [show (bC (List.replicate 32 0)).toArray = #[.int .u8 0, .int .u8 0, .int .u8 0, .int .u8 0, .int .u8 0, .int .u8 0, .int .u8 0, .int .u8 0, .int .u8 0, .int .u8 0, .int .u8 0, .int .u8 0, .int .u8 0, .int .u8 0, .int .u8 0, .int .u8 0, .int .u8 0, .int .u8 0, .int .u8 0, .int .u8 0, .int .u8 0, .int .u8 0, .int .u8 0, .int .u8 0, .int .u8 0, .int .u8 0, .int .u8 0, .int .u8 0, .int .u8 0, .int .u8 0, .int .u8 0, .int .u8 0] from rfl] at ao oo so
  obtain ⟨W1, hW1⟩ : ∃ W1, w.alloc (.cells #[.int .u8 0, .int .u8 0, .int .u8 0, .int .u8 0, .int .u8 0, .int .u8 0, .int .u8 0, .int .u8 0, .int .u8 0, .int .u8 0, .int .u8 0, .int .u8 0, .int .u8 0, .int .u8 0, .int .u8 0, .int .u8 0, .int .u8 0, .int .u8 0, .int .u8 0, .int .u8 0, .int .u8 0, .int .u8 0, .int .u8 0, .int .u8 0, .int .u8 0, .int .u8 0, .int .u8 0, .int .u8 0, .int .u8 0, .int .u8 0, .int .u8 0, .int .u8 0] 51) = W1 := ⟨_, rfl⟩
  rw [hW1] at ao oo so
  obtain ⟨c1, hc1⟩ : ∃ c1, c.put w.heap.size (q + 3) = c1 := ⟨_, rfl⟩
  rw [hc1] at ao oo so
  obtain ⟨ob, hob⟩ : ∃ b, w.heap.size = b := ⟨_, rfl⟩
  rw [hob] at ao
  have NW := new_any oo q (q + 1)
  have hv1 := hv.kn so
  obtain ⟨va, vc, rfl, _⟩ := hv.form
  have X1 := Lib.hid (And.intro ao (And.intro hv1 so))
  clear ao oo so hv1 hv hc1 hok
  go_enter Tryz.func164, Tryz.ntmps164
  go_wp2_with fail
  (try rw [hW1])
  (try rw [hob])
  with_reducible refine NW.mono ?_
  rintro e w2 ⟨p, pc, rfl, c2, a2, p2, s2, o2⟩
  clear NW
  have WR := write_any o2 (q + 2) (K := fun j => q ≤ j ∧ j ≤ q + 2) ⟨Nat.le_refl _, by omega⟩ ⟨by omega, by omega⟩ ⟨by omega, by omega⟩ hq0 (Nat.succ_ne_zero _) (by omega) (Nat.succ_ne_zero _) (by omega) (by omega) a2 p2 (X1.out.2.1.kn s2) hl
  have X2 := Lib.hid (And.intro (X1.out.1.keep s2 (fun h => h)) (X1.out.2.2.trans s2))
  clear a2 p2 s2 o2
  go_wp2_with fail
  with_reducible refine WR.mono ?_
  rintro e w3 ⟨rfl, c3, n, rv, r, a3, p3, l3, hr, hnr, hn64, s3, o3⟩
  have hr64 : r.length < 64 := by
    rcases Nat.lt_or_ge r.length 64 with h | h
    · exact h
    · omega
  have SM := sum_any o3 a3 p3 l3 hr64 (by omega)
  have X3 := Lib.hid (And.intro (X2.out.1) (And.intro (X2.out.2.ofNo.trans s3) s3))
  clear WR a3 p3 l3 s3 o3
  go_wp2_with fail
  with_reducible refine SM.mono ?_
  rintro e w4 ⟨h, hh, rfl, c4, s4, o4⟩
  obtain ⟨B, hB⟩ : ∃ B, bC h = B := ⟨_, rfl⟩
  have hBl : B.length = 32 := by rw [← hB, bC_len, hh]
  have hB1 : ∀ v ∈ B, v.oneCell' = true := by rw [← hB]; exact bC_one _
  have hi0 : (Tryz.prog.info? 51).map (·.size) = some B.length := by rw [info_hash, hBl]
  have hi1 : (Tryz.prog.info? 51).map (·.size) = some B.toArray.size := by rw [info_hash]; simp [hBl]
  -- the copy
  obtain ⟨a5, o5, s5⟩ := newAt o4 (bC (List.replicate 32 0)) 51 (q + 4)
  rw [show (bC (List.replicate 32 0)).toArray = #[.int .u8 0, .int .u8 0, .int .u8 0, .int .u8 0, .int .u8 0, .int .u8 0, .int .u8 0, .int .u8 0, .int .u8 0, .int .u8 0, .int .u8 0, .int .u8 0, .int .u8 0, .int .u8 0, .int .u8 0, .int .u8 0, .int .u8 0, .int .u8 0, .int .u8 0, .int .u8 0, .int .u8 0, .int .u8 0, .int .u8 0, .int .u8 0, .int .u8 0, .int .u8 0, .int .u8 0, .int .u8 0, .int .u8 0, .int .u8 0, .int .u8 0, .int .u8 0] from rfl] at a5 o5 s5
  obtain ⟨c5, hc5⟩ : ∃ c5, c4.put w4.heap.size (q + 4) = c5 := ⟨_, rfl⟩
  rw [hc5] at a5 o5 s5
  obtain ⟨W5, hW5⟩ : ∃ W5, w4.alloc (.cells #[.int .u8 0, .int .u8 0, .int .u8 0, .int .u8 0, .int .u8 0, .int .u8 0, .int .u8 0, .int .u8 0, .int .u8 0, .int .u8 0, .int .u8 0, .int .u8 0, .int .u8 0, .int .u8 0, .int .u8 0, .int .u8 0, .int .u8 0, .int .u8 0, .int .u8 0, .int .u8 0, .int .u8 0, .int .u8 0, .int .u8 0, .int .u8 0, .int .u8 0, .int .u8 0, .int .u8 0, .int .u8 0, .int .u8 0, .int .u8 0, .int .u8 0, .int .u8 0] 51) = W5 := ⟨_, rfl⟩
  rw [hW5] at a5 o5 s5
  have ht5 := a5.there (o := 0) (n := B.toArray.size) o5 (Nat.succ_ne_zero _) (by simp [bC_len, hBl])
  obtain ⟨S5, a6⟩ := a5.st o5 (Nat.succ_ne_zero _) (ty := 51) (us := B) (by simp [bC_len, hBl]) hi0 hB1
  have s6 : Step (One (q + 4)) c5 W5 c5 (W5.setCells w4.heap.size 0 B) := Step.setCells (K := One (q + 4)) (.inr a5.col) _ _ _ Step.refl
  have o6 := Ok.setCells (b := w4.heap.size) B 0 _ o5
  have ab6 := (((X3.out.1.keep X3.out.2.2 (fun e => by have := e.2; omega)).keep s4 (fun h => h)).keep s5 (fun h => h)).keep s6 (show ¬ q + 3 = q + 4 by omega)
  have ht6 := ab6.there (o := 0) (n := B.toArray.size) o6 (Nat.succ_ne_zero _) (by simp [bC_len, hBl])
  obtain ⟨S6, a7⟩ := ab6.st o6 (Nat.succ_ne_zero _) (ty := 51) (us := B) (by simp [bC_len, hBl]) hi0 hB1
  have s7 : Step (One (q + 3)) c5 (W5.setCells w4.heap.size 0 B) c5 ((W5.setCells w4.heap.size 0 B).setCells ob 0 B) := Step.setCells (K := One (q + 3)) (.inr ab6.col) _ _ _ Step.refl
  have o7 := Ok.setCells (b := ob) B 0 _ o6
  have sall : Step No c w c5 ((W5.setCells w4.heap.size 0 B).setCells ob 0 B) := by
    have t1 := X3.out.2.1.mono (K' := fun j => q ≤ j) fun j e => e.1
    have t2 := ((t1.trans s4.ofNo).trans s5.ofNo).trans (s6.mono (K' := fun j => q ≤ j) fun j (e : j = q + 4) => by omega)
    have t3 := t2.trans (s7.mono (K' := fun j => q ≤ j) fun j (e : j = q + 3) => by omega)
    exact t3.drop fun b _ e => by have := hqc b; omega
  obtain ⟨bx, hbx⟩ : ∃ b, w4.heap.size = b := ⟨_, rfl⟩
  rw [hbx] at ht5 ht6 a6 a7 sall o7
  have hB2 := all_oneCell_toArray hB1
  have X7 := Lib.hid (And.intro ht5 (And.intro ht6 (And.intro a6.cells (And.intro a7.cells (And.intro hi0 (And.intro hi1 (And.intro hB2 (And.intro hB (And.intro hh (And.intro sall o7))))))))))
  rw [hB]
  clear ht5 ht6 a6 a7 hi0 hi1 hB1 hB2 hB sall o7 s7 S6 ab6 o6 s6 S5 a5 o5 s5 s4 o4 SM hh hBl hc5
  go_wp2_with (first | (refine wpList_store_mid rfl 51 _ _ rfl bx 0 B.toArray rfl rfl X7.out.1 X7.out.2.2.2.2.2.1 X7.out.2.2.2.2.2.2.1 ?_) | (refine wpList_load_mid rfl 51 _ rfl bx 0 rfl B _ X7.out.2.2.1 Tryz.underlying51 rfl X7.out.2.2.2.2.1 ?_) | (refine wpList_store_mid rfl 51 _ _ rfl ob 0 B.toArray rfl rfl X7.out.2.1 X7.out.2.2.2.2.2.1 X7.out.2.2.2.2.2.2.1 ?_))
  refine bodyPost_ret (results_cell_mid rfl _ _ ob 0 B _ rfl X7.out.2.2.2.1 Tryz.underlying51 rfl X7.out.2.2.2.2.1) rfl ⟨h, X7.out.2.2.2.2.2.2.2.2.1, by rw [X7.out.2.2.2.2.2.2.2.1], c5, X7.out.2.2.2.2.2.2.2.2.2⟩
end
end Go.Proofs.YtgcobbapaaihiaaGreat

set_option linter.unusedVariables false
set_option linter.unusedSimpArgs false
namespace Go.Proofs.YtgcobbapaaihiaaGreat
open Go.RowKit

/-- A hash is written over another, in a block of its own. -/
theorem hst {c : Col} {w : World} (hok : Ok c w) {ob q : Nat} {z : List UInt8} (a : At c w ob q (bC z)) (hz : z.length = 32) (hq0 : q ≠ 0) {x : List UInt8} (hx : x.length = 32) :
    (w.there ob 0 (bC x).toArray.size ∧ (Tryz.prog.info? 51).map (·.size) = some (bC x).toArray.size ∧ (bC x).toArray.all (·.oneCell') = true) ∧
      (At c (w.setCells ob 0 (bC x)) ob q (bC x) ∧ (Tryz.prog.info? 51).map (·.size) = some (bC x).length) ∧ Step (One q) c w c (w.setCells ob 0 (bC x)) ∧ Ok c (w.setCells ob 0 (bC x)) := by
  have hBl : (bC x).length = 32 := by rw [bC_len, hx]
  have hi0 : (Tryz.prog.info? 51).map (·.size) = some (bC x).length := by rw [info_hash, hBl]
  have hi1 : (Tryz.prog.info? 51).map (·.size) = some (bC x).toArray.size := by rw [info_hash]; simp [hBl]
  obtain ⟨_, a2⟩ := a.st hok hq0 (ty := 51) (us := bC x) (by rw [hBl, bC_len, hz]) hi0 (bC_one x)
  exact ⟨⟨a.there hok hq0 (by simp [bC_len, hz, hx]), hi1, all_oneCell_toArray (bC_one x)⟩, ⟨a2, hi0⟩, Step.setCells (K := One q) (.inr a.col) _ _ _ Step.refl, Ok.setCells _ _ _ hok⟩

/-- A new hash, all zeros. -/
theorem hnew {c : Col} {w : World} (hok : Ok c w) (q : Nat) : ∃ W c', w.alloc (.cells #[.int .u8 0, .int .u8 0, .int .u8 0, .int .u8 0, .int .u8 0, .int .u8 0, .int .u8 0, .int .u8 0, .int .u8 0, .int .u8 0, .int .u8 0, .int .u8 0, .int .u8 0, .int .u8 0, .int .u8 0, .int .u8 0, .int .u8 0, .int .u8 0, .int .u8 0, .int .u8 0, .int .u8 0, .int .u8 0, .int .u8 0, .int .u8 0, .int .u8 0, .int .u8 0, .int .u8 0, .int .u8 0, .int .u8 0, .int .u8 0, .int .u8 0, .int .u8 0] 51) = W ∧ At c' W w.heap.size q (bC (List.replicate 32 0)) ∧ Ok c' W ∧ Step No c w c' W := by
  obtain ⟨a, o, s⟩ := newAt hok (bC (List.replicate 32 0)) 51 q
  exact ⟨_, _, rfl, a, o, s⟩

section
variable {c : Col} {w : World}

set_option maxRecDepth 100000 in
set_option maxHeartbeats 1600000 in
theorem hashH_ok (hok : Ok c w) (h : Hdr) (hw : h.Wf) (hc : checkH h = 0) (h64 : (1 + (encH h).length) % 64 ≠ 0) (hlen : (encH h).length ≤ 900000) :
    Calls Tryz.prog 165 #[.agg (hdrC h).toArray] w fun r w' => ∃ x : List UInt8, x.length = 32 ∧ r = .returned (.tuple #[.agg (bC x).toArray, .int .i64 0]) ∧ ∃ c', Step No c w c' w' ∧ Ok c' w' := by
  obtain ⟨q, hq, hqc⟩ := hok.top 0
  have hq0 : q ≠ 0 := by omega
  have a0 := At.new0 hok (hdrC h) 53
  have o0 := hok.alloc (.cells (hdrC h).toArray 53)
  have s0 : Step No c w c (w.alloc (.cells (hdrC h).toArray 53)) := Step.refl.alloc _
  obtain ⟨b0, hb0⟩ : ∃ b, w.heap.size = b := ⟨_, rfl⟩
  rw [hb0] at a0
  obtain ⟨W0, hW0⟩ : ∃ W, w.alloc (.cells (hdrC h).toArray 53) = W := ⟨_, rfl⟩
  rw [hW0] at a0 o0 s0
  obtain ⟨W1, c1, hW1, a1, o1, s1⟩ := hnew o0 q
  obtain ⟨ob, hob⟩ : ∃ b, W0.heap.size = b := ⟨_, rfl⟩
  rw [hob] at a1
  have EN := encodeH_ok o1 h hw hc 0
  have a01 := a0.keep s1 (fun h => h)
  have hl := hdrC_len hw
  obtain ⟨B, hB⟩ : ∃ B, hdrC h = B := ⟨_, rfl⟩
  rw [hB] at hW0 a01 EN hl ⊢
  have X1 := Lib.hid (And.intro a1 (And.intro a01.cells (And.intro (s0.trans s1) (show (Tryz.prog.info? 53).map (·.size) = some B.length by rw [info_hdr, hl]))))
  have HL := Lib.hid (And.intro h64 hlen)
  clear a0 o0 s0 a1 o1 s1 a01 hl hB hok hw hc h64 hlen
  go_enter Tryz.func165, Tryz.ntmps165
  go_wp2_with (first | (refine wpList_load_mid rfl 53 _ rfl b0 0 rfl B _ X1.out.2.1 Tryz.underlying53 rfl X1.out.2.2.2 ?_))
  (try rw [hW0])
  (try rw [hW1])
  with_reducible refine EN.mono ?_
  rintro e w2 ⟨v2, rfl, c2, p2, s2, o2⟩
  obtain ⟨va, vc, rfl, _⟩ := p2.form
  obtain ⟨b1, b2, b3⟩ := Own.new TByte 5 o2 (q + 1) 0 [[.int .u8 72]] [72] rfl (by simp [maxLen]) (fun i x hx => by
    match i with
    | 0 => simp at hx; subst hx; exact ⟨_, rfl, rfl⟩
    | i + 1 => simp at hx) (by simp [TByte])
  have hx2 := p2.kn b3
  have a2 := (X1.out.1.keep s2 (fun h => h)).keep b3 (fun h => h)
  have st2 := (X1.out.2.2.1.trans s2).trans b3
  have hml : [(72 : UInt8)].length + (encH h).length ≤ maxLen := by have := HL.out.2; simp [maxLen]; omega
  have hbl : ([(72 : UInt8)].length + (encH h).length) * 1 ≤ 140737488355328 := by have := HL.out.2; simp; omega
  have hq1 : 0 ≠ q + 1 := by omega
  obtain ⟨E, hE⟩ : ∃ E, encH h = E := ⟨_, rfl⟩
  rw [hE] at hx2 hml hbl
  have X2 := Lib.hid (And.intro a2 (And.intro st2 (And.intro hE s2)))
  clear EN p2 s2 o2 a2 st2 b3 hE
  (try rw [X2.out.2.2.1])
  go_wp2_with (at_builtin; refine wpList_app TByte b2 rfl _ _ 26 rfl 5 Tryz.underlying26 infoU8 rfl (by decide) rfl rfl b1 hx2 hq1 hml hbl ?_; rintro v3 w3 c3 d1 d2 d3 -; obtain ⟨va3, vc3, rfl, _⟩ := d1.sl.form; have d1s := d1.sl; have e1 : ([(72 : UInt8)] ++ E).length = E.length + 1 := (by simp [Nat.add_comm]); rw [e1] at d1s; have BS := hsum_any d3 d1s (by have := HL.out.2; have := X2.out.2.2.1; subst this; simp; omega) (by have := HL.out.1; have := X2.out.2.2.1; subst this; simpa [Nat.add_comm] using HL.out.1); have X3 := Lib.hid (And.intro (X2.out.1.keep d2 (show ¬ q = q + 1 by omega)) (X2.out.2.1.ofNo.trans d2)); clear b1 b2 hx2 d1 d2 d3 d1s)
  with_reducible refine BS.mono ?_
  rintro e w4 ⟨x, hx, rfl, c4, s4, o4⟩
  obtain ⟨⟨t1, t2, t3⟩, ⟨a7, i7⟩, s7, o7⟩ := hst o4 (X3.out.1.keep s4 (fun h => h)) (by simp) hq0 hx
  have sall : Step No c w c4 (w4.setCells ob 0 (bC x)) := by
    have t2 := ((X3.out.2.mono (K' := fun j => q ≤ j) fun j (e : j = q + 1) => by omega).trans s4.ofNo).trans (s7.mono (K' := fun j => q ≤ j) fun j (e : j = q) => by omega)
    exact t2.drop fun b _ e => by have := hqc b; omega
  obtain ⟨Y, hY⟩ : ∃ Y, bC x = Y := ⟨_, rfl⟩
  rw [hY] at t1 t2 t3 a7 i7 sall o7
  have X7 := Lib.hid (And.intro t1 (And.intro t2 (And.intro t3 (And.intro a7.cells (And.intro i7 (And.intro hY (And.intro hx (And.intro sall o7))))))))
  rw [hY]
  clear t1 t2 t3 a7 i7 hY hx sall o7 s7 s4 o4 BS
  go_wp2_with (refine wpList_store_mid rfl 51 _ _ rfl ob 0 Y.toArray rfl rfl X7.out.1 X7.out.2.1 X7.out.2.2.1 ?_)
  refine bodyPost_ret (results_cell_mid2 rfl _ _ ob 0 Y _ rfl X7.out.2.2.2.1 Tryz.underlying51 rfl X7.out.2.2.2.2.1) rfl ⟨x, X7.out.2.2.2.2.2.2.1, by rw [X7.out.2.2.2.2.2.1]; rfl, c4, X7.out.2.2.2.2.2.2.2⟩
end
end Go.Proofs.YtgcobbapaaihiaaGreat
