/- The law PivotActs: one act. -/
import Derived.Test.YtcagfdmafelbkaaPiv5
import Derived.Test.YtcagfdmafelbkaaPivR2
import Derived.Test.YtcagfdmafelbkaaRnd3
import Derived.Test.YtcagfdmafelbkaaRngS
import Derived.Test.YtcagfdmafelbkaaLib3
namespace Go.Proofs.Ytcagfdmafelbkaa
open Go.RowKit
variable {c : Col} {w : World} {b b' : Nat} {s : Stk}

theorem pushS_len (s : Stk) (h : Int) : (pushS s h).l.length ≤ s.l.length + 1 := by unfold pushS; split <;> simp
theorem popS_len (s : Stk) : (popS s).l.length ≤ s.l.length + 1 := by unfold popS; split <;> simp; omega
theorem splitS_len (s : Stk) : (splitS s).l.length ≤ s.l.length + 1 := by unfold splitS; split <;> simp
theorem resetS_len (s : Stk) : (resetS s).l.length ≤ s.l.length + 1 := by unfold resetS; simp

/-- What stands behind an act. -/
structure Acted (c : Col) (w : World) (b b' : Nat) (n : Nat) (c' : Col) (w' : World) : Prop where
  st : ∃ s, IsSt c' 1 2 w' b s ∧ IsSt c' 3 4 w' b' s ∧ Good s ∧ s.l.length ≤ n
  step : Step (fun j => j ≠ 0) c w c' w'
  ok : Ok c' w'

private theorem n12 {a : Nat} (h1 : a ≠ 1) (h2 : a ≠ 2) : ¬ Two 1 2 a := by rintro (h | h) <;> contradiction
private theorem n1 {a : Nat} (h1 : a ≠ 3) : ¬ One 3 a := h1
private theorem m12 {c c' : Col} {w w' : World} (h : Step (Two 1 2) c w c' w') : Step (fun j => j ≠ 0) c w c' w' := h.mono fun j h => by rcases h with rfl | rfl <;> decide
private theorem m3 {c c' : Col} {w w' : World} {k : Nat} (hk : k ≠ 0) (h : Step (One k) c w c' w') : Step (fun j => j ≠ 0) c w c' w' := h.mono fun j h => by cases h; exact hk

set_option maxHeartbeats 1600000 in
theorem acts_any (hok : Ok c w) (h1 : IsSt c 1 2 w b s) (h2 : IsSt c 3 4 w b' s) (g : Good s) (hlen : s.l.length ≤ 1000000000) (kd hh : Int) (hx : IntKind.i64.has hh) :
    Calls Try.prog 45 #[.pointer (some ⟨b, 0, none⟩), .pointer (some ⟨b', 0, none⟩), .agg #[.int .i64 kd, .int .i64 hh]] w fun r w' => r = .returned (.bool true) ∧ ∃ c', Acted c w b b' (s.l.length + 1) c' w' := by
  have hr : 1 ≤ s.root := g.root.1
  have htg : IntKind.i64.has s.target := g.target.has
  by_cases k0 : kd = 0
  · subst k0
    have oka := hok.alloc (.cells #[.int .i64 0, .int .i64 hh] 78)
    have st := Step.al (c := c) (w := w) (.cells #[.int .i64 0, .int .i64 hh] 78)
    have h1a := h1.kn st
    have h2a := h2.kn st
    have A1 := At.new0 hok [.int .i64 0, .int .i64 hh] 78
    have H := Lib.hid (And.intro oka (And.intro h1a (And.intro h2a (And.intro A1 (And.intro g (And.intro hx (And.intro hr (And.intro hlen st))))))))
    have K1 : (fun W => W.cell? ⟨w.heap.size, 1, none⟩ = some (.int .i64 hh)) (w.alloc (.cells #[.int .i64 0, .int .i64 hh] 78)).drew := (A1.keep Step.rf.drew (fun h => h)).cells 1 _ rfl
    clear oka h1a h2a A1 g hx hr hlen st hok h1 h2 htg
    go_enter Try.func45, Try.ntmps45
    go_wp2_with fail
    obtain ⟨oka, h1a, h2a, A1, g, hx, hr, hlen, st⟩ := H.out
    have P1 := push_any oka.drew (h1a.kn Step.rf.drew) hr (by decide) (by decide) (by decide) hh hx hlen
    have P2 := fun (c5 : Col) (w5 : World) (i5 : IsSt c5 3 4 w5 b' s) (o5 : Ok c5 w5) => rpush_any o5 i5 (by decide) (by decide) hh hx hlen
    have G := Lib.hid (And.intro (And.intro h2a A1) (And.intro (g.push hh) (And.intro (pushS_len s hh) st)))
    clear oka h1a h2a A1 g hx hr hlen st H
    refine region_planM (fun W => W.cell? ⟨w.heap.size, 1, none⟩ = some (.int .i64 hh)) (fun _ => true) (by kernel_rfl) ?_
    refine wpAnyM.takeT (i := 0) (v := _) (some 19) rfl rfl (by kernel_rfl) (by kernel_rfl) (by kernel_rfl) (by kernel_rfl) (by kernel_rfl) (fun _ _ _ h => h) (Or.inl ⟨by rfl, fun W hW => by first | (obtain q0 := hW; go_simp <;> rfl) | (obtain q0 := hW; go_simp; done)⟩) K1 ?_
    (try simp only [Act.put, List.setIfInBounds_toArray, List.set_cons_zero, List.set_cons_succ])
    refine wpAnyM.takeT (i := 1) (v := _) (some 20) rfl rfl (by kernel_rfl) (by kernel_rfl) (by kernel_rfl) (by kernel_rfl) (by kernel_rfl) (fun _ _ _ h => h) (Or.inl ⟨by rfl, fun W hW => by first | (obtain q0 := hW; go_simp <;> rfl) | (obtain q0 := hW; go_simp; done)⟩) K1 ?_
    (try simp only [Act.put, List.setIfInBounds_toArray, List.set_cons_zero, List.set_cons_succ])
    refine wpAnyM.takeT (i := 2) (v := _) (some 21) rfl rfl (by kernel_rfl) (by kernel_rfl) (by kernel_rfl) (by kernel_rfl) (by kernel_rfl) (fun _ _ _ h => h) (Or.inl ⟨by rfl, fun W hW => by first | (obtain q0 := hW; go_simp <;> rfl) | (obtain q0 := hW; go_simp; done)⟩) K1 ?_
    (try simp only [Act.put, List.setIfInBounds_toArray, List.set_cons_zero, List.set_cons_succ])
    refine wpAnyM.takeT (i := 4) (v := _) (some 23) rfl rfl (by kernel_rfl) (by kernel_rfl) (by kernel_rfl) (by kernel_rfl) (by kernel_rfl) (fun _ _ _ h => h) (Or.inl ⟨by rfl, fun W hW => by first | (obtain q0 := hW; go_simp <;> rfl) | (obtain q0 := hW; go_simp; done)⟩) K1 ?_
    (try simp only [Act.put, List.setIfInBounds_toArray, List.set_cons_zero, List.set_cons_succ])
    refine wpAnyM.takeT (i := 5) (v := _) (some 24) rfl rfl (by kernel_rfl) (by kernel_rfl) (by kernel_rfl) (by kernel_rfl) (by kernel_rfl) (fun _ _ _ h => h) (Or.inl ⟨by rfl, fun W hW => by first | (obtain q0 := hW; go_simp <;> rfl) | (obtain q0 := hW; go_simp; done)⟩) K1 ?_
    (try simp only [Act.put, List.setIfInBounds_toArray, List.set_cons_zero, List.set_cons_succ])
    refine wpAnyM.takeT (i := 6) (v := _) (some 25) rfl rfl (by kernel_rfl) (by kernel_rfl) (by kernel_rfl) (by kernel_rfl) (by kernel_rfl) (fun _ _ _ h => h) (Or.inl ⟨by rfl, fun W hW => by first | (obtain q0 := hW; go_simp <;> rfl) | (obtain q0 := hW; go_simp; done)⟩) K1 ?_
    (try simp only [Act.put, List.setIfInBounds_toArray, List.set_cons_zero, List.set_cons_succ])
    refine wpAnyM.one (i := 3) (by kernel_rfl) rfl (fun KQ hK => ?_)
    go_simp
    refine P1.mono ?_
    rintro e w5 ⟨rfl, c5, i5, s5, o5⟩
    have u5 := (Step.rf (c := c) (w := w.alloc (.cells #[.int .i64 0, .int .i64 hh] 78))).drew.ofNo.trans s5
    have K2 : w5.cell? ⟨w.heap.size, 1, none⟩ = some (.int .i64 hh) := (G.out.1.2.keep u5 (n12 (by decide) (by decide))).cells 1 _ rfl
    refine hK.out _ _ (fun _ => K2) ?_
    clear hK KQ
    (try simp only [Act.put, List.setIfInBounds_toArray, List.set_cons_zero, List.set_cons_succ])
    refine wpAnyM.one (i := 7) (by kernel_rfl) rfl (fun KQ hK => ?_)
    go_simp
    refine (P2 _ _ (G.out.1.1.keep u5 (n12 (by decide) (by decide)) (n12 (by decide) (by decide)) (n12 (by decide) (by decide))) o5).mono ?_
    rintro e w6 ⟨rfl, c6, i6, s6, o6⟩
    have K3 : w6.cell? ⟨w.heap.size, 1, none⟩ = some (.int .i64 hh) := ((G.out.1.2.keep u5 (n12 (by decide) (by decide))).keep s6 (n1 (by decide))).cells 1 _ rfl
    refine hK.out _ _ (fun _ => K3) ?_
    clear hK KQ
    (try simp only [Act.put, List.setIfInBounds_toArray, List.set_cons_zero, List.set_cons_succ])
    refine wpAnyM.takeT (i := 8) (v := _) (some 27) rfl rfl (by kernel_rfl) (by kernel_rfl) (by kernel_rfl) (by kernel_rfl) (by kernel_rfl) (fun _ _ _ h => h) (Or.inl ⟨by rfl, fun W hW => by first | (obtain q0 := hW; go_simp <;> rfl) | (obtain q0 := hW; go_simp; done)⟩) K3 ?_
    (try simp only [Act.put, List.setIfInBounds_toArray, List.set_cons_zero, List.set_cons_succ])
    refine wpAnyM.one (i := 9) (by kernel_rfl) rfl (fun KQ hK => ?_)
    go_simp
    refine hK.out _ _ (fun _ => K3) ?_
    clear hK KQ
    (try simp only [Act.put, List.setIfInBounds_toArray, List.set_cons_zero, List.set_cons_succ])
    refine wpAnyM.done (by kernel_rfl) ?_ _
    go_wp2_with fail
    go_ret
    exact ⟨rfl, c6, ⟨_, i5.keep s6 (n1 (by decide)) (n1 (by decide)) (n1 (by decide)), i6, G.out.2.1, G.out.2.2.1⟩, (G.out.2.2.2.ofNo.trans (m12 u5)).trans (m3 (by decide) s6), o6⟩
  by_cases k1 : kd = 1
  · subst k1
    have oka := hok.alloc (.cells #[.int .i64 1, .int .i64 hh] 78)
    have st := Step.al (c := c) (w := w) (.cells #[.int .i64 1, .int .i64 hh] 78)
    have h1a := h1.kn st
    have h2a := h2.kn st
    have A1 := At.new0 hok [.int .i64 1, .int .i64 hh] 78
    have P1 := pop_any oka h1a hr (by decide) (by decide) (by decide)
    have P2 := fun (c5 : Col) (w5 : World) (i5 : IsSt c5 3 4 w5 b' s) (o5 : Ok c5 w5) => rpop_any o5 i5 (by decide) (by decide)
    have G := Lib.hid (And.intro h2a (And.intro (g.pop) (And.intro (popS_len s) st)))
    clear oka h1a h2a A1 g hx hr hlen st hok h1 h2 htg
    go_enter Try.func45, Try.ntmps45
    go_wp2_with fail
    refine P1.mono ?_
    rintro e w5 ⟨rfl, i5, s5, o5⟩
    have P3 := P2 _ _ (G.out.1.keep s5 (fun h => absurd h (by show ¬ (_ = _); decide)) (fun h => absurd h (by show ¬ (_ = _); decide)) (fun h => absurd h (by show ¬ (_ = _); decide))) o5
    clear P1 P2
    go_wp2_with fail
    refine P3.mono ?_
    rintro e w6 ⟨rfl, i6, s6, o6⟩
    clear P3
    go_wp2_with fail
    go_ret
    exact ⟨rfl, c, ⟨_, i5.keep s6 (n1 (by decide)) (n1 (by decide)) (n1 (by decide)), i6, G.out.2.1, G.out.2.2.1⟩, (G.out.2.2.2.ofNo.trans (m3 (by decide) s5)).trans (m3 (by decide) s6), o6⟩
  by_cases k2 : kd = 2
  · subst k2
    have oka := hok.alloc (.cells #[.int .i64 2, .int .i64 hh] 78)
    have st := Step.al (c := c) (w := w) (.cells #[.int .i64 2, .int .i64 hh] 78)
    have h1a := h1.kn st
    have h2a := h2.kn st
    have A1 := At.new0 hok [.int .i64 2, .int .i64 hh] 78
    have P1 := split_any oka h1a g (by decide) (by decide) (by decide) hlen
    have P2 := fun (c5 : Col) (w5 : World) (i5 : IsSt c5 3 4 w5 b' s) (o5 : Ok c5 w5) => rsplit_any o5 i5 g (by decide) (by decide) hlen
    have G := Lib.hid (And.intro h2a (And.intro (g.split) (And.intro (splitS_len s) st)))
    clear oka h1a h2a A1 g hx hr hlen st hok h1 h2 htg
    go_enter Try.func45, Try.ntmps45
    go_wp2_with fail
    refine P1.mono ?_
    rintro e w5 ⟨rfl, c5, i5, s5, o5⟩
    have P3 := P2 _ _ (G.out.1.keep s5 (n12 (by decide) (by decide)) (n12 (by decide) (by decide)) (n12 (by decide) (by decide))) o5
    clear P1 P2
    go_wp2_with fail
    refine P3.mono ?_
    rintro e w6 ⟨rfl, c6, i6, s6, o6⟩
    clear P3
    go_wp2_with fail
    go_ret
    exact ⟨rfl, c6, ⟨_, i5.keep s6 (n1 (by decide)) (n1 (by decide)) (n1 (by decide)), i6, G.out.2.1, G.out.2.2.1⟩, (G.out.2.2.2.ofNo.trans (m12 s5)).trans (m3 (by decide) s6), o6⟩
  by_cases k3 : kd = 3
  · subst k3
    have oka := hok.alloc (.cells #[.int .i64 3, .int .i64 hh] 78)
    have st := Step.al (c := c) (w := w) (.cells #[.int .i64 3, .int .i64 hh] 78)
    have h1a := h1.kn st
    have h2a := h2.kn st
    have A1 := At.new0 hok [.int .i64 3, .int .i64 hh] 78
    have P1 := reset_any oka h1a hr htg (by decide) (by decide) (by decide)
    have P2 := fun (c5 : Col) (w5 : World) (i5 : IsSt c5 3 4 w5 b' s) (o5 : Ok c5 w5) => rreset_any o5 i5 htg (by decide) (by decide)
    have G := Lib.hid (And.intro h2a (And.intro (g.reset) (And.intro (resetS_len s) st)))
    clear oka h1a h2a A1 g hx hr hlen st hok h1 h2 htg
    go_enter Try.func45, Try.ntmps45
    go_wp2_with fail
    refine P1.mono ?_
    rintro e w5 ⟨rfl, c5, i5, s5, o5⟩
    have P3 := P2 _ _ (G.out.1.keep s5 (n12 (by decide) (by decide)) (n12 (by decide) (by decide)) (n12 (by decide) (by decide))) o5
    clear P1 P2
    go_wp2_with fail
    refine P3.mono ?_
    rintro e w6 ⟨rfl, c6, i6, s6, o6⟩
    clear P3
    go_wp2_with fail
    go_ret
    exact ⟨rfl, c6, ⟨_, i5.keep s6 (n1 (by decide)) (n1 (by decide)) (n1 (by decide)), i6, G.out.2.1, G.out.2.2.1⟩, (G.out.2.2.2.ofNo.trans (m12 s5)).trans (m3 (by decide) s6), o6⟩
  have H := Lib.hid (And.intro h1 (And.intro h2 (And.intro g hok)))
  clear h1 h2 g hok hx hr htg hlen
  go_enter Try.func45, Try.ntmps45
  go_wp2_with fail
  go_ret
  obtain ⟨h1, h2, g, hok⟩ := H.out
  have st := Step.al (c := c) (w := w) (.cells #[.int .i64 kd, .int .i64 hh] 78)
  exact ⟨rfl, c, ⟨s, h1.kn st, h2.kn st, g, Nat.le_succ _⟩, st.ofNo, hok.alloc _⟩
end Go.Proofs.Ytcagfdmafelbkaa
