/- ServerKnown, part 04: lemmas, each with its own conditions. -/
import Derived.Test.YtgcobbapaaihiaaGreatSk01
import Derived.Test.YtgcobbapaaihiaaGreatSk02
import Derived.Test.YtgcobbapaaihiaaGreatSk03
import Derived.Lib.ConvBytes
import Derived.Lib.IfaceEq
import Derived.Laws.Bits64b
import Derived.Deep.RegionHeld3
set_option linter.unusedVariables false
set_option linter.unusedSimpArgs false
namespace Go.Proofs.YtgcobbapaaihiaaGreat
open Go.RowKit

section
variable {c : Col} {w : World}

theorem newWriter_any (hok : Ok c w) (lim : Int) (h0 : 0 ≤ lim) (h1 : lim ≤ 1048576) (k kb : Nat) :
    Calls Tryz.prog 90 #[.int .i64 lim] w fun r w' => r = .returned (.tuple #[.pointer (some ⟨w.heap.size, 0, none⟩), .int .i64 0]) ∧
      ∃ c', IsWr c' k kb w' w.heap.size lim ([], 0) ∧ Step No c w c' w' ∧ Ok c' w' := by
  obtain ⟨a1, o1, s1⟩ := newAt hok [.int .i64 lim, .slice none 0 0, .int .i64 0, .bool true] 204 k
  have H := Lib.hid (And.intro a1 (And.intro o1 s1))
  clear a1 o1 s1 hok
  go_enter Tryz.func90, Tryz.ntmps90
  go_wp2_with fail
  go_ret2
  obtain ⟨a1, o1, s1⟩ := H.out
  exact ⟨rfl, _, ⟨_, a1, Own.nil _ _ _ _ _ _⟩, s1, o1⟩

theorem putS_le {lim : Int} {s : List UInt8 × Int} (h : (s.1.length : Int) ≤ lim) (may : Bool) (x : List UInt8) : ((putS lim s may x).1.length : Int) ≤ lim := by
  unfold putS
  split
  · exact h
  · split
    · exact h
    · split
      · exact h
      · simp only [List.length_append]; push_cast; omega

/-- A writer that puts one thing that is there already. -/
theorem put1 (hok : Ok c w) {k kb : Nat} {p : Nat} {lim : Int} {s : List UInt8 × Int} (h : IsWr c k kb w p lim s) (hk0 : k ≠ 0) (hb0 : kb ≠ 0) (hkb : kb ≠ k) (hlim : lim ≤ 1048576) (hl0 : (s.1.length : Int) ≤ lim)
    {v : Value} {x : List UInt8} (hv : Sl TByte c 0 0 w v x) (hx : x.length ≤ 1000000000) :
    Calls Tryz.prog 200 #[.pointer (some ⟨p, 0, none⟩), .bool true, .slice (some ⟨w.heap.size, 0, none⟩) 1 1] (w.alloc (.cells #[v] 26)) fun r w' => r = .returned (.int .i64 (putS lim s true x).2) ∧
      ∃ c', IsWr c' k kb w' p lim (putS lim s true x) ∧ Step (Two k kb) c w c' w' ∧ Ok c' w' := by
  obtain ⟨x1, x2, x3⟩ := put_one (T := TBs) (x := x) (vs := [v]) (k2 := 0) hok ⟨v, rfl, hv⟩ 26
  refine (put_any x1 (h.kn x3) hk0 hb0 hkb hlim hl0 true x2 (by simp) (by simp) (by simpa using hx)).mono ?_
  rintro e w' ⟨rfl, c', i, s', o⟩
  rw [show [x].flatten = x by simp] at i ⊢
  exact ⟨rfl, c', i, x3.ofNo.trans s', o⟩

theorem numB_len (n : Nat) : (numB n).length ≤ 9 := by
  have := minF_len 8 n
  simp [numB, minB]; omega

set_option maxRecDepth 100000 in
theorem num_any (hok : Ok c w) {k kb : Nat} {p : Nat} {lim : Int} {s : List UInt8 × Int} (h : IsWr c k kb w p lim s) (hk0 : k ≠ 0) (hb0 : kb ≠ 0) (hkb : kb ≠ k) (hlim : lim ≤ 1048576) (hl0 : (s.1.length : Int) ≤ lim)
    (n : Nat) (hn : n < 9223372036854775808) :
    Calls Tryz.prog 189 #[.pointer (some ⟨p, 0, none⟩), .int .i64 n] w fun r w' => r = .returned (.int .i64 (putS lim s true (numB n)).2) ∧
      ∃ c', IsWr c' k kb w' p lim (putS lim s true (numB n)) ∧ Step (Two k kb) c w c' w' ∧ Ok c' w' := by
  have N := number_any hok n hn 0
  have hm0 : (0 : Int) ≤ (n : Int) := by omega
  have hmx : max (n : Int) 0 = (n : Int) := by omega
  have H := Lib.hid h
  clear h
  go_enter Tryz.func189, Tryz.ntmps189
  go_wp2_with fail
  with_reducible refine N.mono ?_
  rintro e w1 ⟨v1, rfl, c1, p1, s1, o1⟩
  obtain ⟨va, vc, rfl, _⟩ := p1.form
  have P := put1 o1 (H.out.kn s1) hk0 hb0 hkb hlim hl0 p1 (Nat.le_trans (numB_len n) (by omega))
  obtain ⟨nl, hnl⟩ : ∃ nl, (numB n).length = nl := ⟨_, rfl⟩
  rw [hnl] at P ⊢
  have S := Lib.hid s1
  clear N p1 s1 o1 hnl
  go_wp2_with fail
  with_reducible refine P.mono ?_
  rintro e w2 ⟨rfl, c2, i2, s2, o2⟩
  have P2 := Lib.hid (And.intro i2 (And.intro s2 o2))
  clear P i2 s2 o2
  go_wp2_with fail
  go_ret
  obtain ⟨i2, s2, o2⟩ := P2.out
  exact ⟨rfl, c2, i2, S.out.ofNo.trans s2, o2⟩

set_option maxRecDepth 100000 in
theorem bytes_any (hok : Ok c w) {k kb : Nat} {p : Nat} {lim : Int} {s : List UInt8 × Int} (h : IsWr c k kb w p lim s) (hk0 : k ≠ 0) (hb0 : kb ≠ 0) (hkb : kb ≠ k) (hlim : lim ≤ 1048576) (hl0 : (s.1.length : Int) ≤ lim)
    {v : Value} {x : List UInt8} (hv : Sl TByte c 0 0 w v x) (hx : x.length ≤ 100000000) :
    Calls Tryz.prog 213 #[.pointer (some ⟨p, 0, none⟩), v] w fun r w' => r = .returned (.int .i64 (putS lim s true (numB x.length ++ x)).2) ∧
      ∃ c', IsWr c' k kb w' p lim (putS lim s true (numB x.length ++ x)) ∧ Step (Two k kb) c w c' w' ∧ Ok c' w' := by
  have N := number_any hok x.length (by omega) 0
  obtain ⟨va, vc, rfl, _⟩ := hv.form
  have H := Lib.hid (And.intro h hv)
  clear h hv
  go_enter Tryz.func213, Tryz.ntmps213
  go_wp2_with fail
  with_reducible refine N.mono ?_
  rintro e w1 ⟨v1, rfl, c1, p1, s1, o1⟩
  obtain ⟨va1, vc1, rfl, _⟩ := p1.form
  have h1 := H.out.1.kn s1
  have hv1 := H.out.2.kn s1
  have hln := numB_len x.length
  obtain ⟨nb, hnb⟩ : ∃ nb, numB x.length = nb := ⟨_, rfl⟩
  rw [hnb] at p1 hln
  obtain ⟨x1, x2, x3⟩ := put_list (T := TBs) o1 0 (xss := [[.slice va1 nb.length vc1], [.slice va x.length vc]]) (l := [nb, x]) ⟨⟨_, rfl, by rw [hnb] at *; exact p1⟩, ⟨_, rfl, hv1⟩, trivial⟩ (cs := #[.slice va1 nb.length vc1, .slice va x.length vc]) rfl (n := 2) rfl (by omega) 26
  have P := put_any x1 (h1.kn x3) hk0 hb0 hkb hlim hl0 true x2 (by simp) (by simp) (by simp; omega)
  rw [show [nb, x].flatten = nb ++ x by simp] at P
  have sx := s1.trans x3
  obtain ⟨nl, hnl⟩ : ∃ nl, nb.length = nl := ⟨_, rfl⟩
  rw [hnl] at P sx
  have S := Lib.hid (And.intro sx hnb)
  rw [hnb, hnl]
  clear N p1 s1 o1 h1 hv1 x1 x2 x3 hnb hnl hln sx
  go_wp2_with fail
  with_reducible refine P.mono ?_
  rintro e w2 ⟨rfl, c2, i2, s2, o2⟩
  have P2 := Lib.hid (And.intro i2 (And.intro s2 o2))
  clear P i2 s2 o2
  go_wp2_with fail
  go_ret
  obtain ⟨i2, s2, o2⟩ := P2.out
  obtain ⟨sx, hnb⟩ := S.out
  rw [hnb]
  exact ⟨rfl, c2, i2, sx.ofNo.trans s2, o2⟩

/-- []byte(s). -/
theorem conv_any (hok : Ok c w) (l : List UInt8) (hl : l.length ≤ 100000000) (e : TypeId) (k2 : Nat) :
    Sl TByte c 0 k2 (Go.Lib.bytesWorld w e ⟨l.toArray⟩) (.slice (some ⟨w.heap.size, 0, none⟩) l.length (grownCap w l.length 0 e)) l ∧ Step No c w c (Go.Lib.bytesWorld w e ⟨l.toArray⟩) ∧ Ok c (Go.Lib.bytesWorld w e ⟨l.toArray⟩) := by
  have hsz : (Go.Lib.bytesWorld w e ⟨l.toArray⟩).heap.size = w.heap.size + 1 := Go.Lib.bytesWorld_size _ _ _
  have hst : Step No c w c (Go.Lib.bytesWorld w e ⟨l.toArray⟩) := ⟨rfl, rfl, rfl, by omega, fun b hb _ => Go.Lib.bytesWorld_at_old w e _ b hb, fun _ _ _ => rfl⟩
  refine ⟨.inr ⟨w.heap.size, 0, _, rfl, grownCap_ge .., grownCap_le_maxLen _ _ _ _ (by simp only [maxLen]; omega), hok.fresh _ (Nat.le_refl _), by omega, fun i x hi => ⟨_, rfl, ?_⟩⟩, hst, ⟨fun b hb => hok.fresh b (by omega), fun b o hc => ?_⟩⟩
  · intro i' u hu
    have hi0 : i' = 0 := by have := (List.getElem?_eq_some_iff.1 hu).1; simp at this; omega
    subst hi0
    simp at hu
    subst hu
    have hil := (List.getElem?_eq_some_iff.1 hi).1
    have := Go.Lib.bytesWorld_cell w e ⟨l.toArray⟩ i (by show i < l.toArray.size; simpa using hil)
    rw [show (0 + i * TByte.n + 0) = i by simp [TByte]]
    rw [this]
    simp [List.getD, hi]
  · have hb : b < w.heap.size := hok.lt hc
    rw [← hok.soft b o hc]
    exact World.frozen?_of_block (w := w) (a := ⟨b, o, none⟩) (Go.Lib.bytesWorld_at_old w e _ b hb)

theorem text_any (hok : Ok c w) {k kb : Nat} {p : Nat} {lim : Int} {s : List UInt8 × Int} (h : IsWr c k kb w p lim s) (hk0 : k ≠ 0) (hb0 : kb ≠ 0) (hkb : kb ≠ k) (hlim : lim ≤ 1048576) (hl0 : (s.1.length : Int) ≤ lim)
    (x : List UInt8) (hx : x.length ≤ 100000000) :
    Calls Tryz.prog 207 #[.pointer (some ⟨p, 0, none⟩), .string ⟨x.toArray⟩] w fun r w' => r = .returned (.int .i64 (putS lim s true (numB x.length ++ x)).2) ∧
      ∃ c', IsWr c' k kb w' p lim (putS lim s true (numB x.length ++ x)) ∧ Step (Two k kb) c w c' w' ∧ Ok c' w' := by
  obtain ⟨x1, x2, x3⟩ := conv_any hok x hx 5 0
  have P := bytes_any x3 (h.kn x2) hk0 hb0 hkb hlim hl0 x1 hx
  have hr := Go.Lib.run_convert_string_bytes (P := Tryz.prog) w 9 26 5 ⟨x.toArray⟩ Tryz.underlying9 Tryz.underlying26 Tryz.underlying5
  have hsz : (⟨x.toArray⟩ : ByteArray).size = x.length := by simp [ByteArray.size]
  rw [hsz] at hr
  have S := Lib.hid x2
  clear x1 x2 x3 h hok hsz
  go_enter Tryz.func207, Tryz.ntmps207
  go_wp2_with fail
  with_reducible refine P.mono ?_
  rintro e w2 ⟨rfl, c2, i2, s2, o2⟩
  have P2 := Lib.hid (And.intro i2 (And.intro s2 o2))
  clear P i2 s2 o2
  go_wp2_with fail
  go_ret
  obtain ⟨i2, s2, o2⟩ := P2.out
  exact ⟨rfl, c2, i2, S.out.ofNo.trans s2, o2⟩
end
end Go.Proofs.YtgcobbapaaihiaaGreat

set_option linter.unusedVariables false
set_option linter.unusedSimpArgs false
namespace Go.Proofs.YtgcobbapaaihiaaGreat
open Go.RowKit

section
variable {c : Col} {w : World}

set_option maxRecDepth 100000 in
theorem hash_any (hok : Ok c w) {k kb : Nat} {p : Nat} {lim : Int} {s : List UInt8 × Int} (h : IsWr c k kb w p lim s) (hk0 : k ≠ 0) (hb0 : kb ≠ 0) (hkb : kb ≠ k) (hlim : lim ≤ 1048576) (hl0 : (s.1.length : Int) ≤ lim)
    (x : List UInt8) (hx : x.length = 32) :
    Calls Tryz.prog 208 #[.pointer (some ⟨p, 0, none⟩), .agg (bC x).toArray] w fun r w' => r = .returned (.int .i64 (putS lim s true x).2) ∧
      ∃ c', IsWr c' k kb w' p lim (putS lim s true x) ∧ Step (Two k kb) c w c' w' ∧ Ok c' w' := by
  have a1 := At.new0 hok (bC x) 51
  have o1 := hok.alloc (.cells (bC x).toArray 51)
  have s1 : Step No c w c (w.alloc (.cells (bC x).toArray 51)) := Step.refl.alloc _
  have sl1 := a1.sl (k2 := 0) 0 32 (by omega) 32 (Nat.le_refl _) (by simp only [maxLen]; omega)
  rw [List.drop_zero, List.take_of_length_le (by omega)] at sl1
  have P := put1 o1 (h.kn s1) hk0 hb0 hkb hlim hl0 sl1 (by omega)
  have hsl := fun W => run_arr0 (t := 51) Tryz.underlying51 W w.heap.size
  rw [World.size_alloc] at P
  obtain ⟨B, hB⟩ : ∃ B, bC x = B := ⟨_, rfl⟩
  rw [hB] at P s1 ⊢
  have S := Lib.hid s1
  clear a1 o1 s1 sl1 h hok hB hx
  go_enter Tryz.func208, Tryz.ntmps208
  go_wp2_with fail
  with_reducible refine P.mono ?_
  rintro e w2 ⟨rfl, c2, i2, s2, o2⟩
  have P2 := Lib.hid (And.intro i2 (And.intro s2 o2))
  clear P i2 s2 o2
  go_wp2_with fail
  go_ret
  obtain ⟨i2, s2, o2⟩ := P2.out
  exact ⟨rfl, c2, i2, S.out.ofNo.trans s2, o2⟩

set_option maxRecDepth 100000 in
theorem key_any (hok : Ok c w) {k kb : Nat} {p : Nat} {lim : Int} {s : List UInt8 × Int} (h : IsWr c k kb w p lim s) (hk0 : k ≠ 0) (hb0 : kb ≠ 0) (hkb : kb ≠ k) (hlim : lim ≤ 1048576) (hl0 : (s.1.length : Int) ≤ lim)
    (x : List UInt8) (hx : x.length = 4) :
    Calls Tryz.prog 190 #[.pointer (some ⟨p, 0, none⟩), .agg (bC x).toArray] w fun r w' => r = .returned (.int .i64 (putS lim s true x).2) ∧
      ∃ c', IsWr c' k kb w' p lim (putS lim s true x) ∧ Step (Two k kb) c w c' w' ∧ Ok c' w' := by
  have a1 := At.new0 hok (bC x) 91
  have o1 := hok.alloc (.cells (bC x).toArray 91)
  have s1 : Step No c w c (w.alloc (.cells (bC x).toArray 91)) := Step.refl.alloc _
  have sl1 := a1.sl (k2 := 0) 0 4 (by omega) 4 (Nat.le_refl _) (by simp only [maxLen]; omega)
  rw [List.drop_zero, List.take_of_length_le (by omega)] at sl1
  have P := put1 o1 (h.kn s1) hk0 hb0 hkb hlim hl0 sl1 (by omega)
  have hsl := fun W => run_arr0 (t := 91) Tryz.underlying91 W w.heap.size
  rw [World.size_alloc] at P
  obtain ⟨B, hB⟩ : ∃ B, bC x = B := ⟨_, rfl⟩
  rw [hB] at P s1 ⊢
  have S := Lib.hid s1
  clear a1 o1 s1 sl1 h hok hB hx
  go_enter Tryz.func190, Tryz.ntmps190
  go_wp2_with fail
  with_reducible refine P.mono ?_
  rintro e w2 ⟨rfl, c2, i2, s2, o2⟩
  have P2 := Lib.hid (And.intro i2 (And.intro s2 o2))
  clear P i2 s2 o2
  go_wp2_with fail
  go_ret
  obtain ⟨i2, s2, o2⟩ := P2.out
  exact ⟨rfl, c2, i2, S.out.ofNo.trans s2, o2⟩

set_option maxRecDepth 100000 in
theorem wword_any (hok : Ok c w) {k kb : Nat} {p : Nat} {lim : Int} {s : List UInt8 × Int} (h : IsWr c k kb w p lim s) (hk0 : k ≠ 0) (hb0 : kb ≠ 0) (hkb : kb ≠ k) (hlim : lim ≤ 1048576) (hl0 : (s.1.length : Int) ≤ lim)
    (n : Nat) (hn : n < 18446744073709551616) :
    Calls Tryz.prog 252 #[.pointer (some ⟨p, 0, none⟩), .int .u64 n] w fun r w' => r = .returned (.int .i64 (putS lim s true (wordB n)).2) ∧
      ∃ c', IsWr c' k kb w' p lim (putS lim s true (wordB n)) ∧ Step (Two k kb) c w c' w' ∧ Ok c' w' := by
  have N := word_any hok n hn
  have H := Lib.hid h
  have hB1 := bC_one (wordB n)
  have hBl : (bC (wordB n)).length = 8 := by rw [bC_len, wordB, wordL_len]
  have hxl : (wordB n).length = 8 := wordL_len 8 n
  obtain ⟨x, hx⟩ : ∃ x, wordB n = x := ⟨_, rfl⟩
  rw [hx] at N hB1 hBl hxl
  clear h hok
  go_enter Tryz.func252, Tryz.ntmps252
  go_wp2_with fail
  with_reducible refine N.mono ?_
  rintro e w1 ⟨rfl, c1, s1, o1⟩
  obtain ⟨B, hB⟩ : ∃ B, bC x = B := ⟨_, rfl⟩
  have h1 := H.out.kn s1
  obtain ⟨q, hq, hqc⟩ := o1.spare 0
  have hq0 : q ≠ 0 := by omega
  obtain ⟨a2, o2, s2⟩ := newAt o1 (bC (List.replicate 8 0)) 319 q
  have hi1 : (Tryz.prog.info? 319).map (·.size) = some (bC x).length := by rw [info8, hBl]
  obtain ⟨S0, a3⟩ := a2.st o2 hq0 (ty := 319) (us := bC x) (by rw [hBl]; simp [bC_len]) hi1 hB1
  have ht0 := a2.there (o := 0) (n := (bC x).toArray.size) o2 hq0 (by simp [bC_len, hxl])
  have s3 : Step No c1 w1 (c1.put w1.heap.size q) ((w1.alloc (.cells (bC (List.replicate 8 0)).toArray 319)).setCells w1.heap.size 0 (bC x)) := Step.setCells (.inl (Nat.le_refl _)) _ _ _ s2
  have o3 : Ok (c1.put w1.heap.size q) ((w1.alloc (.cells (bC (List.replicate 8 0)).toArray 319)).setCells w1.heap.size 0 (bC x)) := Ok.setCells _ _ _ o2
  have sl3 := a3.sl (k2 := 0) 0 8 (by omega) 8 (Nat.le_refl _) (by simp only [maxLen]; omega)
  rw [List.drop_zero, List.take_of_length_le (by omega)] at sl3
  obtain ⟨c4, sl4, s4, o4⟩ := Sl.out1 sl3 s3.ofNo o3 hqc hq0 (by omega) 0
  have P := put1 o4 (h1.kn s4) hk0 hb0 hkb hlim hl0 sl4 (by omega)
  have hsl := fun W => run_arr0 (t := 319) Tryz.underlying319 W w1.heap.size
  rw [show (bC (List.replicate 8 0)).toArray = #[.int .u8 0, .int .u8 0, .int .u8 0, .int .u8 0, .int .u8 0, .int .u8 0, .int .u8 0, .int .u8 0] from rfl] at P
  have hi2 : (Tryz.prog.info? 319).map (·.size) = some (bC x).toArray.size := by rw [info8]; simp [hBl]
  have hB2 := all_oneCell_toArray hB1
  have sx := s1.trans s4
  rw [hB] at P ht0 hi2 hB2 sx ⊢
  have S := Lib.hid (And.intro sx hx)
  have SH := Lib.hid (And.intro ht0 (And.intro hi2 hB2))
  clear sx N s1 o1 h1 a2 o2 s2 S0 a3 ht0 s3 o3 sl3 sl4 s4 o4 hi1 hB1 hBl hB hx hi2 hB2
  go_wp2_with (refine wpList_store_mid rfl 319 _ _ rfl w1.heap.size 0 B.toArray rfl rfl SH.out.1 SH.out.2.1 SH.out.2.2 ?_)
  with_reducible refine P.mono ?_
  rintro e w2 ⟨rfl, c2, i2, s2, o2⟩
  have P2 := Lib.hid (And.intro i2 (And.intro s2 o2))
  clear P i2 s2 o2
  go_wp2_with fail
  go_ret
  obtain ⟨i2, s2, o2⟩ := P2.out
  rw [S.out.2]
  exact ⟨rfl, c2, i2, S.out.1.ofNo.trans s2, o2⟩

theorem clone_any (hok : Ok c w) {kx : Nat} (k : Nat) {v : Value} {l : List UInt8} (hv : Sl TByte c kx 0 w v l) (hlen : l.length ≤ 1000000000) :
    Calls Tryz.prog 95 #[v] w fun e w' => ∃ v' c', e = .returned v' ∧ Own TByte 5 c' k 0 w' v' l ∧ Step No c w c' w' ∧ Ok c' w' := by
  have hn := fun (w : World) a n c => Lib.run_eql_slice_nil (P := Tryz.prog) w 26 5 a n c 0 0 Tryz.underlying26
  obtain ⟨va, vc, rfl, hva⟩ := hv.form
  cases va with
  | none =>
    obtain ⟨rfl, rfl⟩ := hva rfl
    clear hv hva hlen
    simp only [List.length_nil]
    go_enter Tryz.func95, Tryz.ntmps95
    go_wp2
    go_ret
    exact ⟨_, c, rfl, Own.nil _ _ _ _ _ _, Step.refl, hok⟩
  | some ad =>
    obtain ⟨q, hq, hqc⟩ := hok.spare 0
    have hqk : 0 ≠ q := by omega
    have hq0 : q ≠ 0 := by omega
    obtain ⟨o1, o2, o3⟩ := Own.new0 TByte 5 hok q 0
    have hx' := hv.keep o3 (fun h => h) (fun h => h)
    have hml : ([] : List UInt8).length + l.length ≤ maxLen := by simp [maxLen]; omega
    have hbl : (([] : List UInt8).length + l.length) * 1 ≤ 140737488355328 := by simp; omega
    clear hv hva
    go_enter Tryz.func95, Tryz.ntmps95
    go_wp2_with (at_builtin; refine wpList_app TByte o2 rfl _ _ 26 rfl 5 Tryz.underlying26 infoU8 rfl (by decide) rfl rfl o1 hx' hqk hml hbl ?_; intro v' w' c' a1 a2 a3 _)
    go_ret
    exact ⟨v', c'.turn q k, rfl, a1.turn hqk, ((o3.ofNo.trans a2).turn rfl).own hqc, a3.turn hq0⟩

theorem done_any (hok : Ok c w) {k kb : Nat} {p : Nat} {lim : Int} {s : List UInt8 × Int} (h : IsWr c k kb w p lim s) (he : s.2 = 0) (hl : s.1.length ≤ 1000000000) (kx : Nat) :
    Calls Tryz.prog 92 #[.pointer (some ⟨p, 0, none⟩)] w fun r w' => ∃ v, r = .returned (.tuple #[v, .int .i64 0]) ∧ ∃ c', Sl TByte c' kx 0 w' v s.1 ∧ Step No c w c' w' ∧ Ok c' w' := by
  obtain ⟨bs, e⟩ := s
  obtain ⟨bv, a, ow⟩ := h.row
  have he : e = 0 := he
  subst he
  have y1 := a.get (i := 1) rfl
  have y2 := a.get (i := 2) rfl
  have y3 := a.get (i := 3) rfl
  have C := clone_any hok kx ow.sl hl
  clear h a ow hok hl
  go_enter Tryz.func92, Tryz.ntmps92
  go_wp2_with fail
  with_reducible refine C.mono ?_
  rintro e1 w1 ⟨v1, c1, rfl, p1, s1, o1⟩
  have P1 := Lib.hid (And.intro p1.sl (And.intro s1 o1))
  clear C p1 s1 o1
  go_wp2_with fail
  go_ret2
  exact ⟨v1, rfl, c1, P1.out⟩

theorem done_bad {k kb : Nat} {p : Nat} {lim : Int} {s : List UInt8 × Int} (h : IsWr c k kb w p lim s) (he : s.2 ≠ 0) :
    Calls Tryz.prog 92 #[.pointer (some ⟨p, 0, none⟩)] w fun r w' => r = .returned (.tuple #[.slice none 0 0, .int .i64 s.2]) ∧ ∃ n, w' = w.drewN n := by
  obtain ⟨bs, e⟩ := s
  obtain ⟨bv, a, ow⟩ := h.row
  have he : (e == 0) = false := beq_eq_false_iff_ne.2 he
  have y2 := a.get (i := 2) rfl
  have y3 := a.get (i := 3) rfl
  clear h a ow
  go_enter Tryz.func92, Tryz.ntmps92
  go_wp2_with fail
  go_quiet (fail)
  go_wp2_with fail
  go_ret2
  exact ⟨rfl, _, rfl⟩
end
end Go.Proofs.YtgcobbapaaihiaaGreat

set_option linter.unusedVariables false
set_option linter.unusedSimpArgs false
namespace Go.Proofs.YtgcobbapaaihiaaGreat
open Go.RowKit

/-- The number of bytes, the highest first. -/
def bigF : Nat → List UInt8 → Nat
  | a, [] => a
  | a, x :: l => bigF (a * 256 + x.toNat) l
def bigN (l : List UInt8) : Nat := bigF 0 l

theorem bigF_app (a : Nat) (l : List UInt8) (x : UInt8) : bigF a (l ++ [x]) = bigF a l * 256 + x.toNat := by
  induction l generalizing a with
  | nil => rfl
  | cons y l ih => exact ih _
theorem bigN_app (l : List UInt8) (x : UInt8) : bigN (l ++ [x]) = bigN l * 256 + x.toNat := bigF_app 0 l x
theorem bigF_lt : ∀ (l : List UInt8) (a : Nat), bigF a l < (a + 1) * 256 ^ l.length
  | [], a => by simp [bigF]
  | x :: l, a => by
    have h1 := bigF_lt l (a * 256 + x.toNat)
    have h2 := x.toNat_lt
    have h3 : (a * 256 + x.toNat + 1) * 256 ^ l.length ≤ (a + 1) * 256 * 256 ^ l.length := Nat.mul_le_mul_right _ (by omega)
    rw [List.length_cons, Nat.pow_succ, Nat.mul_comm (256 ^ l.length), ← Nat.mul_assoc]
    exact Nat.lt_of_lt_of_le h1 h3
theorem bigN_lt (l : List UInt8) : bigN l < 256 ^ l.length := by have := bigF_lt l 0; simpa [bigN] using this

theorem or_byte (m : Nat) (x : UInt8) (hm : m < 72057594037927936) : bits .or .u64 (IntKind.u64.wrap ((m : Int) * 256)) (IntKind.u64.wrap (x.toNat : Int)) = ((m * 256 + x.toNat : Nat) : Int) := by
  have hx := x.toNat_lt
  have e1 : IntKind.u64.wrap ((m : Int) * 256) = ((m * 256 : Nat) : Int) := by rw [IntWalk.u64_in _ (by omega), Int.natCast_mul]; rfl
  have e2 : IntKind.u64.wrap (x.toNat : Int) = (x.toNat : Int) := IntWalk.u64_in _ (by omega)
  rw [e1, e2, bits_or_u64_nat _ _ (by omega) (by omega)]
  have := Nat.shiftLeft_add_eq_or_of_lt (i := 8) (b := x.toNat) (by omega) m
  rw [Nat.shiftLeft_eq] at this
  rw [← this]

section
variable {c : Col} {w : World}

theorem must_yes (w : World) (e at_ : Int) : Calls Tryz.prog 101 #[.bool true, .int .i64 e, .int .i64 at_] w fun r w' => r = .returned (.tuple #[]) ∧ w' = w := by
  go_enter Tryz.func101, Tryz.ntmps101
  go_wp2
  first | go_end0 | refine bodyPost_ret (results_none rfl _ _ _) rfl ?_
  exact ⟨rfl, rfl⟩

theorem must_no (w : World) (e at_ : Int) : Calls Tryz.prog 101 #[.bool false, .int .i64 e, .int .i64 at_] w fun r w' => r = .panicked [{ v := .iface 210 (.agg #[.int .i64 e, .int .i64 at_]), recovered := false }] ∧ w' = w := by
  go_enter Tryz.func101, Tryz.ntmps101
  go_wp2
  exact ⟨rfl, rfl, rfl⟩

set_option maxRecDepth 100000 in
set_option maxHeartbeats 800000 in
theorem big_any {kx : Nat} {v : Value} {l : List UInt8} (h : Sl TByte c kx 0 w v l) (hl : l.length ≤ 8) :
    Calls Tryz.prog 136 #[v] w fun r w' => r = .returned (.int .u64 (bigN l)) ∧ w' = w := by
  by_cases h0 : l.length = 0
  · obtain ⟨va, vc, rfl, _⟩ := h.form
    obtain rfl := List.eq_nil_of_length_eq_zero h0
    clear h
    simp only [List.length_nil]
    go_enter Tryz.func136, Tryz.ntmps136
    go_wp2_with fail
    refine wp_loop_once ?_
    go_wp2_with fail
    go_ret
    exact ⟨rfl, rfl⟩
  obtain ⟨g, off, cap, rfl, _⟩ := h.ex (by omega)
  go_enter Tryz.func136, Tryz.ntmps136
  go_wp2_with fail
  go_loopw [2, 7] (fun vn vi wr => ∃ (j m : Nat), j ≤ l.length ∧ vi = .int .i64 j ∧ vn = .int .u64 m ∧ bigN (l.take j) = m ∧ w = wr) (fun _ vi _ => l.length - (intOf vi).toNat)
  case atStart => exact ⟨0, 0, Nat.zero_le _, rfl, rfl, rfl, rfl⟩
  case round =>
    obtain ⟨j, m, hj, rfl, rfl, hm, rfl⟩ := hrel
    by_cases hlt : j < l.length
    · obtain ⟨x, hx⟩ : ∃ x, l[j]? = some x := ⟨l[j], by simp [hlt]⟩
      obtain ⟨vs, rfl, hcs⟩ := h.at hx
      have y0 := hcs.get 0 rfl
      simp only [TByte, Nat.mul_one, Nat.add_zero] at y0
      have hb := bigN_lt (l.take j)
      have hj0 : (0 : Int) ≤ (j : Int) := by omega
      have hj1 : (j : Int) < (l.length : Int) := by omega
      clear hcs
      go_wp2_with fail
      go_roundw
      case rel =>
        have h7 : m < 72057594037927936 := by
          rw [List.length_take, Nat.min_eq_left hj] at hb
          rw [← hm]
          exact Nat.lt_of_lt_of_le hb (Nat.le_trans (Nat.pow_le_pow_right (n := 256) (j := 7) (by decide) (by omega)) (by decide))
        exact ⟨j + 1, m * 256 + x.toNat, by omega, by go_num, by rw [or_byte _ _ h7], by rw [List.take_add_one, hx]; simp only [Option.toList_some]; rw [bigN_app, hm], trivial⟩
      case measure => simp [intOf]; omega
    · have hjl : j = l.length := by omega
      subst hjl
      rw [List.take_length] at hm
      clear h
      go_wp2_with fail
      go_ret
      exact ⟨by rw [hm]; rfl, rfl⟩
end
end Go.Proofs.YtgcobbapaaihiaaGreat

set_option linter.unusedVariables false
set_option linter.unusedSimpArgs false
namespace Go.Proofs.YtgcobbapaaihiaaGreat
open Go.RowKit

section
variable {P : Program} {ops : Array Oper} {Q : Exit → Act → World → Prop}

theorem wpIn_of_wp {o : Oper} (hd : ∀ cl, o.op ≠ .defer cl) {a : Act} {w : World} {K K' : Act → World → Prop} (hK : ∀ a w, K a w → K' a w) (lp : Nat) (h : o.wp P a w K Q) : o.wpIn (Fence.wide.inRound lp) 0 P a w K' Q := by
  refine ⟨fun _ _ => trivial, ?_⟩
  rw [Oper.semAt_eq _ _ _ hd]
  unfold Oper.wp at h
  cases hr : (execOp a.eval o).run P w with
  | halt x w' =>
    rw [hr] at h
    cases x <;> first | exact h | exact h.elim
  | ok x w' =>
    rw [hr] at h
    cases x with
    | value v => exact hK _ _ h
    | skip => exact hK _ _ h
    | defer d => exact hK _ _ h
    | enter f args =>
      refine ⟨fun h => by simp [Fence.wide] at h, CallsIn.inRound lp ((callsIn_wide (n := 0)).2 (Calls.mono h ?_))⟩
      intro e w'' hh
      cases e with
      | returned v => exact hK _ _ hh
      | panicked ch => exact hh
      | outgrown => exact hh
    | row r args =>
      refine ⟨fun h => by simp [Fence.wide] at h, fun c cs _ => ?_⟩
      obtain ⟨v, w'', r, s⟩ := h c cs
      exact ⟨v, w'', hK _ _ r, stepsIn_wide.2 s⟩
    | _ => exact h.elim

theorem wpOpsIn_of_wpOps (hd : ∀ (i : Nat) o, ops[i]? = some o → ∀ cl, o.op ≠ .defer cl) (hq : ¬ LetsOut Q) (lp : Nat) : ∀ (l : List Nat) (a : Act) (w : World), wpOps P ops Q l a w → wpOpsIn (Fence.wide.inRound lp) 0 P ops Q l a w
  | [], _, _, h => h
  | i :: rest, a, w, h => by
    simp only [wpOps] at h
    simp only [wpOpsIn]
    cases ho : ops[i]? with
    | none => simp only [ho] at h ⊢; exact wpOpsIn_of_wpOps hd hq lp rest a w h
    | some o =>
      simp only [ho] at h ⊢
      split
      · rename_i hw
        rw [if_pos hw] at h
        rcases h with h | ⟨_, h⟩
        · exact wpIn_of_wp (hd i o ho) (fun a w => wpOpsIn_of_wpOps hd hq lp rest a w) lp h
        · exact (hq h).elim
      · rename_i hw
        rw [if_neg hw] at h
        exact ⟨fun _ _ => trivial, wpOpsIn_of_wpOps hd hq lp rest _ w h⟩

def noDefers (ops : Array Oper) : Bool := ops.all fun o => match o.op with | .defer _ => false | _ => true
theorem noDefers_spec (h : noDefers ops = true) : ∀ (i : Nat) o, ops[i]? = some o → ∀ cl, o.op ≠ .defer cl := by
  intro i o ho cl e
  have hm : o ∈ ops := Array.mem_of_getElem? ho
  have := Array.all_eq_true'.1 h o hm
  rw [e] at this; cases this

/-- A region that draws its order, in a round: by the plain rules. -/
theorem region_round {id : Nat} {a : Act} {w : World} {lp : Nat} (hm : P.follows .mixedOrders = true) (hd : noDefers ops = true) (hq : ¬ LetsOut Q)
    (h : wpAny P .any ops Q ops.size (Array.replicate ops.size false) a w.drew) : (Code.region id ops true).wpIn (Fence.wide.inRound lp) 0 P Q a w :=
  wpIn_region_draw fun t => by
    simp only [Region.schedule, hm, Bool.true_or, if_true]
    exact wpOpsIn_of_wpOps (noDefers_spec hd) hq lp _ _ _ (wpAny_sound ops.size t _ a _ h)

theorem region_roundH {S : World → Prop} {id : Nat} {a : Act} {w : World} {lp : Nat} (hm : P.follows .mixedOrders = true) (hd : noDefers ops = true) (hq : ¬ LetsOut Q)
    (h : wpAnyH P .any ops Q S ops.size (Array.replicate ops.size false) a w.drew) : (Code.region id ops true).wpIn (Fence.wide.inRound lp) 0 P Q a w :=
  region_round hm hd hq (wpAny_of_held _ _ _ _ h)
end
end Go.Proofs.YtgcobbapaaihiaaGreat
