/- FastShift, where the count is not negative. -/
import Derived.Test.Qxb6500378aDoorQuShift
import Derived.Test.Qxb6500378aDoorStPlain
namespace Go.Proofs.Qxb6500378aDoor
set_option linter.unusedVariables false
set_option linter.unusedSimpArgs false
set_option maxHeartbeats 2000000
open Go.RowKit Go.Qu

/-- the low word shifted left -/
def shlI (v n : Int) : Int := if 32 ≤ n then 0 else wrap32 (wrap32 v * 2 ^ n.toNat)
theorem shl_run (v n : Int) (hn : 0 ≤ n) (w : World) : (Op.shift .shl .i32 (IntKind.i32.wrap v) .i64 n).run Tryd.prog w = .ok (.int .i32 (shlI v n)) w := by
  unfold shlI
  by_cases h : 32 ≤ n
  · rw [if_pos h]
    simp [go_sem, h, hn]
    rw [IntKind.wrap_i32]; omega
  · rw [if_neg h]
    have h2 : n < 32 := by omega
    simp [go_sem, h2, hn]
    rw [IntKind.wrap_i32, IntKind.wrap_i32, wrap32, wrap32]
theorem shlI_bounds (v n : Int) : -2147483648 ≤ shlI v n ∧ shlI v n ≤ 2147483647 := by
  unfold shlI
  split
  · omega
  · rw [wrap32]; omega

theorem fastShift_pos (p : Nat) (v n : Int) (w : World) (hn : 0 ≤ n) : Calls Tryd.prog 74 #[.pointer (some ⟨p, 0, none⟩), .int .i64 v, .int .i64 n] w fun e w' => e = .returned (.tuple #[.int .i64 0, .int .i64 (shlI v n)]) ∧ Chg (fun _ => False) w w' := by
  have hmf : ∀ (fn : Fn) (first cap : Array Value) (w : World), (Instr.makeFunc fn first cap).run Tryd.prog w = .ok (.func fn first cap) w := fun _ _ _ _ => rfl
  have y1 := fun w => shl_run v n hn w
  have hb := shlI_bounds v n
  obtain ⟨R, hR⟩ : ∃ R, shlI v n = R := ⟨_, rfl⟩
  rw [hR] at y1 hb ⊢
  obtain ⟨b1, b2⟩ := hb
  have y2 : IntKind.i64.wrap R = R := by rw [IntKind.wrap_i64]; omega
  clear hR hn
  go_enter_defers Tryd.func74, Tryd.ntmps74
  go_wp2
  refine wp_region_any (by kernel_rfl) ?_
  change wpAny _ _ _ _ _ _ _ (World.drew _)
  refine wpAny_take (i := 0) (v := .int .i64 v) rfl (by kernel_rfl) (by kernel_rfl) (by kernel_rfl) (fun c a w h => put_panic (res_fastShift 9 _ (by decide) (by decide)) c a w h) (Or.inl ⟨by rfl, fun w => by rfl⟩) ?_
  refine wpAny_take (i := 1) (v := .int .i32 (IntKind.i32.wrap v)) rfl (by kernel_rfl) (by kernel_rfl) (by kernel_rfl) (fun c a w h => put_panic (res_fastShift 10 _ (by decide) (by decide)) c a w h) (Or.inl ⟨by rfl, fun w => by go_simp⟩) ?_
  refine wpAny_take (i := 2) (v := .int .i64 n) rfl (by kernel_rfl) (by kernel_rfl) (by kernel_rfl) (fun c a w h => put_panic (res_fastShift 11 _ (by decide) (by decide)) c a w h) (Or.inl ⟨by rfl, fun w => by rfl⟩) ?_
  refine wpAny_take (i := 3) (v := .int .i32 R) rfl (by kernel_rfl) (by kernel_rfl) (by kernel_rfl) (fun c a w h => put_panic (res_fastShift 12 _ (by decide) (by decide)) c a w h) (Or.inl ⟨by rfl, fun w => by go_simp⟩) ?_
  refine wpAny_take (i := 4) (v := .int .i64 R) rfl (by kernel_rfl) (by kernel_rfl) (by kernel_rfl) (fun c a w h => put_panic (res_fastShift 13 _ (by decide) (by decide)) c a w h) (Or.inl ⟨by rfl, fun w => by go_simp⟩) ?_
  refine wpAny_ready (rs := [5]) (by kernel_rfl) (by simp) ?_
  refine AllReady.cons rfl (fun K hK => ?_) AllReady.nil
  go_simp
  refine hK _ _ ?_
  clear hK K
  refine wpAny_ready (rs := [6]) (by kernel_rfl) (by simp) ?_
  refine AllReady.cons rfl (fun K hK => ?_) AllReady.nil
  go_simp
  refine hK _ _ ?_
  clear hK K
  refine wpAny_done (by kernel_rfl) ?_ _
  go_wp2
  show bodyPostD Tryd.prog Tryd.f74 _ Exit.ret _ _
  refine leaves_cons (f := 93) (args := #[.pointer (some ⟨w.heap.size, 0, none⟩), .pointer (some ⟨w.heap.size + 1, 0, none⟩)]) (by simp) (by simp [go_sem]) ?_
  refine (catch_idle ⟨w.heap.size, 0, none⟩ ⟨w.heap.size + 1, 0, none⟩ _).mono ?_
  rintro e u' w'' ⟨rfl, rfl, rfl⟩
  simp [Leaves, settle, results, Tryd.results74, go_sem]
  exact (((Chg.refl _ _).alloc _).alloc _).drew
end Go.Proofs.Qxb6500378aDoor
