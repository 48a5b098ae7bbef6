/- Feed, FeedWith, Tune. -/
import Derived.Test.Qxb6500376aDoorChFeed
namespace Go.Proofs.Qxb6500376aDoor
set_option linter.unusedVariables false
set_option linter.unusedSimpArgs false
open Go.RowKit Go.Qu

/-! ### Feed, FeedWith, Tune -/
set_option maxHeartbeats 1000000 in
theorem feed_of (p : Nat) (l : Lk) (s : CS) (c z b : Int) (a : Nat) (w : World) (h : CA w p l s c z) (ha : s.at_ = a) (ha8 : a < 8) {R : Ending → World → Prop}
    (hf : Calls Tryd.prog 21 #[.pointer (some ⟨p, 0, none⟩), .int .i64 b, .int .i32 (6 * (a : Int))] w.drew R)
    (hR : ∀ e w', R e w' → ∃ x y z, e = .returned (.tuple #[.int .i64 x, .int .i64 y, .int .i64 z])) :
    Calls Tryd.prog 32 #[.pointer (some ⟨p, 0, none⟩), .int .i64 b] w R := by
  have h19 := h.c19
  have h14 : w.cell? ⟨p, 14, none⟩ = some (.int .i64 (a : Int)) := by rw [h.c14, ha]
  have hd : w.cell? ⟨l.d, a, none⟩ = some (.int .i32 (6 * (a : Int))) := by rw [h.tab.cell a, ramp_get a ha8]; simp
  have a8 : (a : Int) < 8 := by omega
  have H : Hid (CA w p l s c z) := h
  have HF : Hid (Calls Tryd.prog 21 #[.pointer (some ⟨p, 0, none⟩), .int .i64 b, .int .i32 (6 * (a : Int))] w.drew R) := hf
  have HR : Hid (∀ e w', R e w' → ∃ x y z, e = .returned (.tuple #[.int .i64 x, .int .i64 y, .int .i64 z])) := hR
  clear h ha hf hR
  go_enter Tryd.func32, Tryd.ntmps32
  go_wp2
  go_region_with (go_at_call 21; refine HF.out.mono ?_; intro e w1 hr; obtain ⟨x, y, z', he⟩ := HR.out e w1 hr; have HQ : Hid (R e w1) := hr; clear hr; subst he)
  all_goals go_wp2
  all_goals go_simp
  all_goals go_ret3
  all_goals exact HQ.out

theorem feedWith_of (p : Nat) (b n : Int) (w : World) {R : Ending → World → Prop}
    (hf : Calls Tryd.prog 21 #[.pointer (some ⟨p, 0, none⟩), .int .i64 b, .int .i32 (wrap32 n)] w R)
    (hR : ∀ e w', R e w' → ∃ x y z, e = .returned (.tuple #[.int .i64 x, .int .i64 y, .int .i64 z])) :
    Calls Tryd.prog 10 #[.pointer (some ⟨p, 0, none⟩), .int .i64 b, .int .i64 n] w R := by
  have HF : Hid (Calls Tryd.prog 21 #[.pointer (some ⟨p, 0, none⟩), .int .i64 b, .int .i32 (wrap32 n)] w R) := hf
  have HR : Hid (∀ e w', R e w' → ∃ x y z, e = .returned (.tuple #[.int .i64 x, .int .i64 y, .int .i64 z])) := hR
  clear hf hR
  have e0 : IntKind.i32.wrap n = wrap32 n := by rw [IntKind.wrap_i32]; unfold wrap32; rfl
  go_enter Tryd.func10, Tryd.ntmps10
  go_wp2_with fail
  refine HF.out.mono ?_
  rintro e w1 hr
  obtain ⟨x, y, z, rfl⟩ := HR.out e w1 hr
  have HQ : Hid (R (.returned (.tuple #[.int .i64 x, .int .i64 y, .int .i64 z])) w1) := hr
  clear hr
  go_wp2
  go_ret3
  exact HQ.out

theorem tune_depth (p : Nat) (d m : Int) (w : World) (hd : d < 1 ∨ 32 < d) : Calls Tryd.prog 9 #[.pointer (some ⟨p, 0, none⟩), .int .i64 d, .int .i64 m] w fun e w' => e = .returned (.int .i64 9) ∧ w' = w := by
  rcases hd with hd | hd
  · go_enter Tryd.func9, Tryd.ntmps9
    go_wp2
    go_ret
    exact ⟨rfl, rfl⟩
  · have h0 : ¬ d < 1 := by omega
    go_enter Tryd.func9, Tryd.ntmps9
    go_wp2
    go_ret
    exact ⟨rfl, rfl⟩
theorem tune_mode (p : Nat) (d m : Int) (w : World) (d1 : 1 ≤ d) (d2 : d ≤ 32) (hm : m < 0 ∨ 3 < m) : Calls Tryd.prog 9 #[.pointer (some ⟨p, 0, none⟩), .int .i64 d, .int .i64 m] w fun e w' => e = .returned (.int .i64 2) ∧ w' = w := by
  have k1 : ¬ d < 1 := by omega
  have k2 : ¬ 32 < d := by omega
  rcases hm with hm | hm
  · go_enter Tryd.func9, Tryd.ntmps9
    go_wp2
    go_ret
    exact ⟨rfl, rfl⟩
  · have h0 : ¬ m < 0 := by omega
    go_enter Tryd.func9, Tryd.ntmps9
    go_wp2
    go_ret
    exact ⟨rfl, rfl⟩
theorem tune_ok (p : Nat) (l : Lk) (s : CS) (c z d m : Int) (w : World) (h : CA w p l s c z) (d1 : 1 ≤ d) (d2 : d ≤ 32) (m1 : 0 ≤ m) (m2 : m ≤ 3) :
    Calls Tryd.prog 9 #[.pointer (some ⟨p, 0, none⟩), .int .i64 d, .int .i64 m] w fun e w' => e = .returned (.int .i64 0) ∧ CA w' p l { s with depth := d, mode := m } c z ∧ Chg (· = p) w w' := by
  have k1 : ¬ d < 1 := by omega
  have k2 : ¬ 32 < d := by omega
  have k3 : ¬ m < 0 := by omega
  have k4 : ¬ 3 < m := by omega
  have h1 := h.c1
  have h2 := h.c2
  have g1 := h.frozen 1
  have g2 := h.frozen 2
  have H : Hid (CA w p l s c z) := h
  clear h
  go_enter Tryd.func9, Tryd.ntmps9
  go_wp2
  go_ret
  exact ⟨rfl, (H.out.set_depth d).set_mode m, (Chg.set1 w p 1 _).trans (Chg.set1 _ p 2 _)⟩
end Go.Proofs.Qxb6500376aDoor
