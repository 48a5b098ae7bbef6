/- The pipeline's verdicts: judge, Squelch. -/
import Derived.Test.Qxb6500376aDoorChSmall
import Derived.Deep.QuietTactic
import Derived.BigQuiet
import Derived.LaidEqlPtr
import Derived.Deep.RegionWith
namespace Go.Proofs.Qxb6500376aDoor
set_option linter.unusedVariables false
set_option linter.unusedSimpArgs false
open Go.RowKit Go.Qu

theorem judge_zero (p : Nat) (l : Lk) (s : CS) (c z : Int) (w : World) (h : CA w p l s c z) : Calls Tryd.prog 46 #[.pointer (some ⟨p, 0, none⟩), .int .i32 0] w fun e w' => e = .returned (.pointer (some ⟨l.dr, 0, none⟩)) ∧ w' = w := by
  have h1 := h.c21
  clear h
  go_enter Tryd.func46, Tryd.ntmps46
  go_wp2
  go_ret
  exact ⟨rfl, rfl⟩
theorem judge_sound (p : Nat) (l : Lk) (s : CS) (c z v : Int) (w : World) (h : CA w p l s c z) (hv : v ≠ 0) : Calls Tryd.prog 46 #[.pointer (some ⟨p, 0, none⟩), .int .i32 v] w fun e w' => e = .returned (.pointer (some ⟨l.k, 0, none⟩)) ∧ w' = w := by
  have h1 := h.c20
  have h2 : (v == 0) = false := by simpa using hv
  clear h hv
  go_enter Tryd.func46, Tryd.ntmps46
  go_wp2
  go_ret
  exact ⟨rfl, rfl⟩
theorem tag_same (a : Addr) (w : World) : (binOp .eql 60 (.pointer (some a)) (.pointer (some a))).run Tryd.prog w = .ok (.bool true) w := by
  obtain ⟨j, hj⟩ := Option.isSome_iff_exists.1 (show (Tryd.prog.info? 70).isSome = true by kernel_rfl)
  exact run_eql_ptr_same w a Tryd.underlying60 hj
theorem tag_other {a b : Addr} (hne : a ≠ b) {w : World} {va vb : List Value} {ta tb : TypeId} (ha : Has ta w a.block va) (hb : Has tb w b.block vb) : (binOp .eql 60 (.pointer (some a)) (.pointer (some b))).run Tryd.prog w = .ok (.bool false) w := by
  have hs : (Tryd.prog.info? 70).map (·.size) = some 1 := by kernel_rfl
  obtain ⟨j, hj⟩ := Option.isSome_iff_exists.1 (show (Tryd.prog.info? 70).isSome = true by kernel_rfl)
  rw [hj] at hs
  have hs' : j.size = 1 := by simpa using hs
  exact run_eql_ptr_other w Tryd.underlying60 hj (by rw [hs']; decide) hne ha hb

theorem squelch_zero (p : Nat) (l : Lk) (s : CS) (c z v : Int) (w : World) (h : CA w p l s c z) (hv : wrap32 v = 0) : Calls Tryd.prog 36 #[.pointer (some ⟨p, 0, none⟩), .int .i64 v] w fun e w' =>
    e = .returned (.int .i64 1) ∧ CA w' p l { s with dropped := wrap64 (s.dropped + 1) } c z ∧ Chg (· = p) w w' := by
  have h1 := h.c18
  have h2 := h.frozen 18
  have h3 := h.c21
  have y1 := tag_same
  have hv2 : IntKind.i32.wrap v = 0 := by rw [IntKind.wrap_i32]; unfold wrap32 at hv; exact hv
  have H : Hid (CA w p l s c z) := h
  clear h
  go_enter Tryd.func36, Tryd.ntmps36
  go_wp2
  go_quiet ((go_at_call 46; refine (judge_zero p l s c z _ (H.out.drewN _)).mono ?_; rintro e w'' ⟨rfl, rfl⟩; exact ⟨rfl, _, rfl⟩))
  go_wp2
  go_ret
  refine ⟨rfl, (H.out.drewN nq).move H.out.len (Chg.set1 _ p 18 _) ?_, ((Chg.refl _ _).drewN nq).trans (Chg.set1 _ p 18 _)⟩
  rw [← chCells_set_dropped l s H.out.len]; exact (H.out.drewN nq).obj.setCell 18 _

theorem squelch_sound (p : Nat) (l : Lk) (s : CS) (c z v : Int) (w : World) (h : CA w p l s c z) (hv : wrap32 v ≠ 0) : Calls Tryd.prog 36 #[.pointer (some ⟨p, 0, none⟩), .int .i64 v] w fun e w' =>
    e = .returned (.int .i64 0) ∧ CA w' p l s c z ∧ Chg (fun _ => False) w w' := by
  have h3 := h.c21
  have y1 : ∀ n, (binOp .eql 60 (.pointer (some ⟨l.k, 0, none⟩)) (.pointer (some ⟨l.dr, 0, none⟩))).run Tryd.prog (w.drewN n) = .ok (.bool false) (w.drewN n) :=
    fun n => tag_other (a := ⟨l.k, 0, none⟩) (b := ⟨l.dr, 0, none⟩) (fun e => h.kdr (congrArg Addr.block e)) (h.drewN n).k (h.drewN n).dr
  have H : Hid (CA w p l s c z) := h
  have HV : Hid (wrap32 v ≠ 0) := hv
  clear h hv
  go_enter Tryd.func36, Tryd.ntmps36
  go_wp2
  go_quiet ((go_at_call 46; refine (judge_sound p l s c z _ _ (H.out.drewN _) HV.out).mono ?_; rintro e w'' ⟨rfl, rfl⟩; exact ⟨rfl, _, rfl⟩))
  go_wp2
  go_ret
  exact ⟨rfl, H.out.drewN nq, Chg.drewN (Chg.refl (fun _ => False) w) nq⟩

end Go.Proofs.Qxb6500376aDoor
