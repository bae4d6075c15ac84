/- ServerTurns, part 20: lemmas, each with its own conditions. -/
import Derived.Test.YtgcobbapaaihiaaGreatSt07
import Derived.Test.YtgcobbapaaihiaaGreatSt19
set_option linter.unusedVariables false
set_option linter.unusedSimpArgs false
namespace Go.Proofs.YtgcobbapaaihiaaGreat
open Go.RowKit

theorem infoInt3 : (Tryz.prog.info? 3).map (fun i => (i.zero, i.size, i.bytes)) = some (some (.int .i64 0), 1, 8) := by kernel_rfl
theorem zero_cmt : ∃ Z, Z.length = 34 ∧ zeroIs Tryz.prog 56 Z := ⟨zeroL 56, by kernel_rfl, by unfold zeroIs; kernel_rfl⟩
theorem info_cmt2 : (Tryz.prog.info? 56).map (·.size) = some 34 := by kernel_rfl

section
variable {c : Col} {w : World}

theorem cpvals_any (hok : Ok c w) {kx : Nat} {v : Value} {l : List Vld} (hv : Sl TVal c kx 0 w v l) (hlen : l.length ≤ 1000000000) :
    Calls Tryz.prog 94 #[v] w fun e w' => ∃ v' c', e = .returned v' ∧ Sl TVal c' 0 0 w' v' l ∧ Step No c w c' w' ∧ Ok c' w' := by
  obtain ⟨q, hq, hqc⟩ := hok.spare kx
  have hqk : 0 ≠ q := by omega
  have hq0 : q ≠ 0 := by omega
  obtain ⟨o1, o2, o3⟩ := Own.new0 TVal 93 hok q 0
  have hx' := hv.keep o3 (fun h => h) (fun h => h)
  have hml : ([] : List Vld).length + l.length ≤ maxLen := by simp [maxLen]; omega
  have hbl : (([] : List Vld).length + l.length) * 16 ≤ 140737488355328 := by simp; omega
  clear hv
  go_enter Tryz.func94, Tryz.ntmps94
  go_wp2_with (at_builtin; refine wpList_app TVal o2 rfl _ _ 57 rfl 93 Tryz.underlying57 infoVal3 rfl (by decide) rfl rfl o1 hx' hqk hml hbl ?_; intro v' w' c' a1 a2 a3 _)
  go_ret
  exact ⟨v', c'.turn q 0, rfl, (a1.turn hqk).sl, ((o3.ofNo.trans a2).turn rfl).own hqc, a3.turn hq0⟩

theorem cpints_any (hok : Ok c w) {kx : Nat} {v : Value} {l : List Int} (hv : Sl (TInt .i64) c kx 0 w v l) (hlen : l.length ≤ 1000000000) :
    Calls Tryz.prog 32 #[v] w fun e w' => ∃ v' c', e = .returned v' ∧ Sl (TInt .i64) c' 0 0 w' v' l ∧ Step No c w c' w' ∧ Ok c' w' := by
  obtain ⟨q, hq, hqc⟩ := hok.spare kx
  have hqk : 0 ≠ q := by omega
  have hq0 : q ≠ 0 := by omega
  obtain ⟨o1, o2, o3⟩ := Own.new0 (TInt .i64) 3 hok q 0
  have hx' := hv.keep o3 (fun h => h) (fun h => h)
  have hml : ([] : List Int).length + l.length ≤ maxLen := by simp [maxLen]; omega
  have hbl : (([] : List Int).length + l.length) * 8 ≤ 140737488355328 := by simp; omega
  clear hv
  go_enter Tryz.func32, Tryz.ntmps32
  go_wp2_with (at_builtin; refine wpList_app (TInt .i64) o2 rfl _ _ 23 rfl 3 Tryz.underlying23 infoInt3 rfl (by decide) rfl rfl o1 hx' hqk hml hbl ?_; intro v' w' c' a1 a2 a3 _)
  go_ret
  exact ⟨v', c'.turn q 0, rfl, (a1.turn hqk).sl, ((o3.ofNo.trans a2).turn rfl).own hqc, a3.turn hq0⟩

set_option maxRecDepth 100000 in
set_option maxHeartbeats 1600000 in
theorem cpcmt_any (hok : Ok c w) {kx : Nat} {vc : Value} {x : Cmt} (hh : x.hash.length = 32) (hv : Sl TVot c kx 0 w vc x.votes) (hlen : x.votes.length ≤ 1000000000) :
    Calls Tryz.prog 93 #[.agg (cmC x vc).toArray] w fun e w' => ∃ vc' c', e = .returned (.agg (cmC x vc').toArray) ∧ Sl TVot c' 0 0 w' vc' x.votes ∧ Step No c w c' w' ∧ Ok c' w' := by
  obtain ⟨q, hq, hqc⟩ := hok.spare kx
  have hqk : 0 ≠ q := by omega
  have hq0 : q ≠ 0 := by omega
  obtain ⟨q2, hq2, hq2c⟩ := hok.spare q
  obtain ⟨Z, hZ, zZ⟩ := zero_cmt
  have hcl := cmC_len hh vc
  obtain ⟨a1, p1, s1⟩ := newAt hok (cmC x vc) 56 q
  obtain ⟨a2, p2, s2⟩ := newAt p1 Z 56 q
  rw [World.size_alloc] at a2 p2 s2
  have a1' := a1.kn s2
  have hq2c' : ∀ b, ((c.put w.heap.size q).put (w.heap.size + 1) q) b ≠ q2 := by
    intro b
    by_cases h1 : b = w.heap.size + 1
    · subst h1; rw [Col.put_same]; omega
    · rw [Col.put_other _ _ h1]
      by_cases h2 : b = w.heap.size
      · subst h2; rw [Col.put_same]; omega
      · rw [Col.put_other _ _ h2]; exact hq2c b
  obtain ⟨n1, n2, n3⟩ := Own.new0 TVot 106 p2 q2 0
  have hx' := ((hv.kn s1).kn s2).kn n3
  have hml : ([] : List Vot).length + x.votes.length ≤ maxLen := by simp [maxLen]; omega
  have hbl : (([] : List Vot).length + x.votes.length) * 16 ≤ 140737488355328 := by simp; omega
  obtain ⟨va, vn, rfl, _⟩ := hv.form
  have y33 : (((w.alloc (.cells (cmC x (.slice va x.votes.length vn)).toArray 56)).alloc (.cells Z.toArray 56)).alloc (.cells #[] 106)).cell? ⟨w.heap.size, 33, none⟩ = some (.slice va x.votes.length vn) := by
    refine (a1'.kn n3).get (i := 33) ?_
    unfold cmC
    rw [List.getElem?_cons_succ, List.getElem?_append_right (by rw [bC_len, hh]; omega), bC_len, hh]
    rfl
  obtain ⟨bx, hbx⟩ : ∃ b, w.heap.size = b := ⟨_, rfl⟩
  rw [hbx] at a1 p1 s1 a2 p2 s2 a1' hq2c' n1 n2 n3 hx' y33
  have a2' := a2.kn n3
  have a1'' := a1'.kn n3
  obtain ⟨C, hC⟩ : ∃ C, cmC x (.slice va x.votes.length vn) = C := ⟨_, rfl⟩
  rw [hC] at a1 p1 s1 a2 p2 s2 a1' n1 n2 n3 hx' y33 hcl a2' a1'' ⊢
  obtain ⟨W1, hW1⟩ : ∃ W, w.alloc (.cells C.toArray 56) = W := ⟨_, rfl⟩
  rw [hW1] at a1 p1 s1 a2 p2 s2 a1' n1 n2 n3 hx' y33 a2' a1''
  have e1 : W1.heap.size = bx + 1 := by rw [← hW1, World.size_alloc, hbx]
  obtain ⟨W2, hW2⟩ : ∃ W, W1.alloc (.cells Z.toArray 56) = W := ⟨_, rfl⟩
  rw [hW2] at a2 p2 s2 a1' n1 n2 n3 hx' y33 a2' a1''
  have e2 : W2.heap.size = bx + 1 + 1 := by rw [← hW2, World.size_alloc, e1]
  rw [e2] at n1 n2 n3 hx' a2' a1''
  obtain ⟨W3, hW3⟩ : ∃ W, W2.alloc (.cells #[] 106) = W := ⟨_, rfl⟩
  rw [hW3] at n1 n2 n3 hx' y33 a2' a1''
  obtain ⟨c2, hc2⟩ : ∃ c2, (c.put bx q).put (bx + 1) q = c2 := ⟨_, rfl⟩
  obtain ⟨c3, hc3⟩ : ∃ c3, c2.put (bx + 1 + 1) q2 = c3 := ⟨_, rfl⟩
  rw [hc2] at hq2c' a2 p2 s2 a1' n1 n2 n3 hx' a2' a1''
  rw [hc3] at n1 n2 n3 hx' a2' a1''
  have X := Lib.hid (And.intro a1'' (And.intro a2' (And.intro ((s1.trans s2).trans n3) (And.intro hq2c' (And.intro hC hW2)))))
  clear hok hv hlen a1 p1 s1 a2 p2 s2 a1' n3 a2' a1'' hC hW2 hc2 hc3 hq2c' hqc
  go_enter Tryz.func93, Tryz.ntmps93
  have hqq : ¬ One q2 q := fun e => absurd e (by show ¬ q = q2; omega)
  go_wp2_with (first | (refine wpList_alloc_zero rfl (some 2) rfl 56 rfl zZ ?_; rw [X.out.2.2.2.2.2, e1])
                      | (at_builtin; refine wpList_app TVot n2 rfl _ _ 54 rfl 106 Tryz.underlying54 infoVot3 rfl (by decide) rfl rfl n1 hx' (by omega) hml hbl ?_
                         rintro v' w' c' b1 b2 b3 -
                         rw [List.nil_append] at b1
                         obtain ⟨va', vn', rfl, _⟩ := b1.sl.form
                         obtain ⟨aa, ab, ac, ad, hC, _⟩ := X.out
                         have a3 := aa.keep b2 hqq
                         have a4 := ab.keep b2 hqq
                         have yf := a3.fz b3 hq0 33
                         have y33' := (a3.get (i := 33) (u := .slice va x.votes.length vn) (by
                           rw [← hC]; unfold cmC
                           rw [List.getElem?_cons_succ, List.getElem?_append_right (by rw [bC_len, hh]; omega), bC_len, hh]
                           rfl))
                         have a5 := a3.setN (i := 33) (by omega) (.slice va' x.votes.length vn')
                         rw [show C.set 33 (.slice va' x.votes.length vn') = cmC x (.slice va' x.votes.length vn') by rw [← hC]; exact cmC_votes hh _ _] at a5
                         have a6 := a4.offC bx 33 (.slice va' x.votes.length vn') (by omega)
                         have o6 : Ok c' (w'.setCell ⟨bx, 33, none⟩ (.slice va' x.votes.length vn')) := b3.setCell _ _
                         have s6 : Step (One q2) c3 W3 c' w' := b2
                         have cl := cmC_len hh (.slice va' x.votes.length vn')
                         have c1 : ∀ u ∈ cmC x (.slice va' x.votes.length vn'), u.oneCell' = true := cmC_one rfl
                         obtain ⟨C2, hC2⟩ : ∃ C2, cmC x (.slice va' x.votes.length vn') = C2 := ⟨_, rfl⟩
                         rw [hC2] at a5 cl c1
                         have hi0 : (Tryz.prog.info? 56).map (·.size) = some C2.length := by rw [info_cmt2, cl]
                         have hi1 : (Tryz.prog.info? 56).map (·.size) = some C2.toArray.size := by rw [info_cmt2]; simp [cl]
                         have ht := a6.there (o := 0) (n := C2.toArray.size) o6 hq0 (by simp [cl, hZ])
                         have a7 := (a6.st o6 hq0 (ty := 56) (us := C2) (by rw [cl, hZ]) hi0 c1).2
                         have SL := Lib.hid (And.intro a5.cells (And.intro hi0 (And.intro ht (And.intro hi1 (And.intro (all_oneCell_toArray c1) (And.intro a7.cells (And.intro b1 (And.intro b2 (And.intro o6 (And.intro hC2 (And.intro a3.col a4.col)))))))))))
                         clear b1 b2 b3 a3 a4 a5 a6 o6 s6 cl c1 hi0 hi1 ht a7 hC hC2 aa ab ac ad)
                      | (refine wpList_load_mid rfl 56 _ rfl bx 0 rfl C2 _ SL.out.1 Tryz.underlying56 rfl SL.out.2.1 ?_)
                      | (refine wpList_store_mid rfl 56 _ _ rfl (bx + 1) 0 C2.toArray rfl rfl SL.out.2.2.1 SL.out.2.2.2.1 SL.out.2.2.2.2.1 ?_))
  obtain ⟨hc0, hi0, _, _, _, hc7, b1, b2, o6, hC2, k1, k2⟩ := SL.out
  have st : Step (One q) c' w' c' ((w'.setCell ⟨bx, 33, none⟩ (.slice va' x.votes.length vn')).setCells (bx + 1) 0 C2) := Step.setCells (.inr k2) _ _ _ ((Step.refl (K := One q)).setCell (a := ⟨bx, 33, none⟩) (.inr k1) _)
  have st2 : Step No c w c' ((w'.setCell ⟨bx, 33, none⟩ (.slice va' x.votes.length vn')).setCells (bx + 1) 0 C2) := (Step.setCells (.inl (by omega)) _ _ _ ((X.out.2.2.1.ofNo.trans b2).setCell (a := ⟨bx, 33, none⟩) (.inl (by show w.heap.size ≤ bx; omega)) _)).own hq2c
  refine bodyPost_ret (results_cell_mid rfl _ _ (bx + 1) 0 C2 _ rfl hc7 Tryz.underlying56 rfl hi0) rfl ⟨_, by rw [← hC2], c'.turn q2 0, ?_, ?_, ?_⟩
  · exact (b1.sl.keep st (fun e => absurd e (by show ¬ q2 = q; omega)) (fun e => absurd e (by show ¬ 0 = q; omega))).turn (by omega)
  · exact (Step.turn (K := One q2) st2.ofNo rfl).own hq2c
  · exact (Ok.setCells _ _ _ o6).turn (by omega)
end
end Go.Proofs.YtgcobbapaaihiaaGreat

set_option linter.unusedVariables false
set_option linter.unusedSimpArgs false
namespace Go.Proofs.YtgcobbapaaihiaaGreat
open Go.RowKit

/-- The table, and its digits. -/
def rowsB : ByteArray := ⟨#[48, 49, 50, 51, 52, 53, 54, 55, 56, 57, 97, 98, 99, 100, 101, 102, 101, 97, 52, 56, 57, 102, 100, 54, 49, 99, 48, 50, 98, 55, 53, 51, 98, 56, 99, 48, 53, 50, 102, 100, 97, 101, 51, 54, 55, 49, 57, 52, 55, 57, 51, 49, 100, 99, 98, 101, 50, 54, 53, 97, 52, 48, 102, 56, 57, 48, 53, 55, 50, 52, 97, 102, 101, 49, 98, 99, 54, 56, 51, 100, 50, 99, 54, 97, 48, 98, 56, 51, 52, 100, 55, 53, 102, 101, 49, 57, 99, 53, 49, 102, 101, 100, 52, 97, 48, 55, 54, 51, 57, 50, 56, 98, 100, 98, 55, 101, 99, 49, 51, 57, 53, 48, 102, 52, 56, 54, 50, 97, 54, 102, 101, 57, 98, 51, 48, 56, 99, 50, 100, 55, 49, 52, 97, 53, 97, 50, 56, 52, 55, 54, 49, 53, 102, 98, 57, 101, 51, 99, 100, 48]⟩
def digB : ByteArray := ⟨#[48, 49, 50, 51, 52, 53, 54, 55, 56, 57, 97, 98, 99, 100, 101, 102]⟩
theorem rows_all : ((List.range 160).all fun p => decide ((rowsB.data.getD p 0).toNat < 128) && decide (0 ≤ Go.Lib.indexByte digB.data.toList (rowsB.data.getD p 0).toNat.toUInt8) && decide (Go.Lib.indexByte digB.data.toList (rowsB.data.getD p 0).toNat.toUInt8 < 16)) = true := by kernel_rfl
theorem rows_ok (p : Nat) (h : p < rowsB.size) : (rowsB[p]'h).toNat < 128 ∧ ∃ j : Nat, j < 16 ∧ Go.Lib.indexByte digB.data.toList (((rowsB[p]'h).toNat : Int)).toNat.toUInt8 = (j : Int) := by
  have hp : p < 160 := h
  have := List.all_eq_true.1 rows_all p (by simpa using hp)
  have hg : rowsB.data.getD p 0 = rowsB[p]'h := by
    have : rowsB.data.getD p 0 = rowsB.data[p]'h := by simp only [Array.getD]; exact dif_pos h
    rw [this]; rfl
  rw [hg] at this
  simp only [Bool.and_eq_true, decide_eq_true_eq] at this
  refine ⟨this.1.1, (Go.Lib.indexByte digB.data.toList (rowsB[p]'h).toNat.toUInt8).toNat, by omega, ?_⟩
  rw [Int.toNat_natCast]
  omega

section
variable {w : World}

theorem run_idxB (s : ByteArray) (c : Int) :
    (callFunc 221 #[.string s, .int .u8 c]).run Tryz.prog w = .ok (.value (.int .i64 (Go.Lib.indexByte s.data.toList c.toNat.toUInt8))) w := by
  have hr := Go.Lib.run_indexByteString (P := Tryz.prog) s c w
  rw [run_callFunc_extern Tryz.func221 (by kernel_rfl) (by kernel_rfl) (by kernel_rfl) (by kernel_rfl), hr]
  rfl

theorem sindex_any (s : ByteArray) (c : Int) (w : World) :
    Calls Tryz.prog 215 #[.string s, .int .u8 c] w fun r w' => r = .returned (.int .i64 (Go.Lib.indexByte s.data.toList c.toNat.toUInt8)) ∧ w' = w := by
  have hr := fun w => run_idxB (w := w) s c
  obtain ⟨r, hrr⟩ : ∃ r, Go.Lib.indexByte s.data.toList c.toNat.toUInt8 = r := ⟨_, rfl⟩
  rw [hrr] at hr ⊢
  have H : Calls Tryz.prog 220 #[.string s, .int .u8 c] w fun e w' => e = .returned (.int .i64 r) ∧ w' = w := by
    clear hrr
    go_enter Tryz.func220, Tryz.ntmps220
    go_wp2
    go_ret
    exact ⟨rfl, rfl⟩
  clear hrr hr
  go_enter Tryz.func215, Tryz.ntmps215
  go_wp2_with fail
  with_reducible refine H.mono ?_
  rintro e w' ⟨rfl, rfl⟩
  go_wp2_with fail
  go_ret
  exact ⟨rfl, rfl⟩

set_option maxRecDepth 100000 in
theorem indexRune_any (s : ByteArray) (c : Int) (h0 : 0 ≤ c) (h1 : c < 128) (w : World) :
    Calls Tryz.prog 210 #[.string s, .int .i32 c] w fun r w' => r = .returned (.int .i64 (Go.Lib.indexByte s.data.toList c.toNat.toUInt8)) ∧ w' = w := by
  have H := sindex_any s c w
  have hw : IntKind.u8.wrap c = c := IntWalk.u8_in _ (by omega)
  go_enter Tryz.func210, Tryz.ntmps210
  go_wp2_with fail
  with_reducible refine H.mono ?_
  rintro e w' ⟨rfl, rfl⟩
  go_wp2_with fail
  go_ret
  exact ⟨rfl, rfl⟩
end
end Go.Proofs.YtgcobbapaaihiaaGreat
