/- Filled from the given shell of this statement. -/
import Derived.Test.Qxb6500378aRows
import Derived.WalkKit
import Derived.ProofKit
import Derived.OpenShut
import Derived.ShutString
import Derived.Test.Qxb6500378aQuShift
namespace Go.Proofs.Qxb6500378a.edgeRangeBrims
open Go.ChangeShapes Go.WideShapes Go.ChangeAt Go.RowKit Go.Qu
open Go.ChangeMaps (open_string shut_string)
set_option linter.unusedVariables false      -- a walk need not use every 'w<i>' (that an integer argument fits its kind)

theorem own : ownKnob Try.prog.godebug = none := by kernel_rfl

theorem walk  (w : World) :
    Calls Try.prog 19 #[] w fun e w' => e = .returned (.bool true) ∧ Below w.heap.size w w' := by
  have e1 : wrap64 (wrap32 (-2147483648)) = -2147483648 := by decide +kernel
  have e2 : wrap64 (wrap32 2147483647) = 2147483647 := by decide +kernel
  have e3 : wrap64 (wrap32 (-2147483648 * 2 ^ (0 : Int).toNat)) = -2147483648 := by decide +kernel
  have e4 : wrap64 (wrap32 (2147483647 * 2 ^ (0 : Int).toNat)) = 2147483647 := by decide +kernel
  go_enter Try.func19, Try.ntmps19
  go_wp2_with fail
  refine (new_any _).mono ?_; rintro e w1 ⟨rfl, q1, s1, c1⟩
  go_wp2_with fail
  refine (widen_range _ (-1) _ (by decide)).mono ?_; rintro e w2 ⟨rfl, rfl⟩
  go_wp2_with fail
  refine (widen_range _ 4294967296 _ (by decide)).mono ?_; rintro e w2 ⟨rfl, rfl⟩
  go_wp2_with fail
  refine (widen_num _ 0 0 _ (by decide) (by decide) (by decide +kernel) (by decide +kernel)).mono ?_; rintro e w8 ⟨rfl, rfl⟩
  go_wp2_with fail
  refine (widen_nan _ 4294967295 _ _ _ (by decide) (by decide) (by decide +kernel) q1).mono ?_; rintro e w9 ⟨rfl, hw⟩
  have c2 := Chg.set1 w8 w.heap.size 1 (.int .i64 (wrap64 (0 + 1)))
  rw [← hw] at c2
  clear hw
  go_wp2_with fail
  refine (shift_high _ 2147483648 0 _ (by decide)).mono ?_; rintro e w3 ⟨rfl, rfl⟩
  go_wp2_with fail
  refine (shift_low _ (-2147483649) 0 _ (by decide)).mono ?_; rintro e w3 ⟨rfl, rfl⟩
  go_wp2_with fail
  refine (shift_left _ (-2147483648) 0 _ (by decide) (by decide) (by decide) (by decide)).mono ?_; rintro e w4 ⟨rfl, rfl⟩
  rw [e3]
  go_wp2_with fail
  refine (shift_left _ 2147483647 0 _ (by decide) (by decide) (by decide) (by decide)).mono ?_; rintro e w4 ⟨rfl, rfl⟩
  rw [e4]
  go_wp2
  repeat (go_region; go_wp2)
  go_ret
  exact ⟨rfl, (c1.nil.trans (c2.at (Nat.le_refl _))).drew.drew.fin⟩

/-! ### THE ROW's STEP -/
set_option maxRecDepth 100000 in
theorem lifted (os : Os) (started : os.Started) (H : Type) (enc : TypeId × Value → H) :
    ReturnsInHanded {} Try.checked os 19 .any (Rows.edgeRangeBrimsSpec.pre6 enc Try.prog Try.f19 Rows.edgeRangeBrimsRow.domain false) (Rows.edgeRangeBrimsSpec.post enc Try.prog Try.f19 false true false false) := by
  refine returnsInHanded_of_change (C := Try.checked) own started (by kernel_rfl) Try.func19
    (ChangeSpec.witness6 (enc := enc) (C := Try.checked) false ⟨#[], #[], []⟩ 8 (by kernel_rfl) (by kernel_rfl) (by kernel_rfl) (by kernel_rfl)) ?_
  intro W base args ds gs before hval0 hW hcnd _
  have hval : ∀ (j : Nat) t v, Try.f19.params[j]? = some t → args[j]? = some v → Value.okWide Try.prog W .any base t v := hval0
  have hW' := hW
  obtain ⟨p, q, hA0, hV, rfl, hfz, hnd⟩ := hW
  have hA : DataW.TrodAll enc Try.prog W 0 (fun _ => true) true Try.f19.params.toList args.toList ds p := hA0
  rw [Try.params19] at hA hval
  obtain ⟨rfl, rfl, rfl⟩ := trodAll_none hA
  obtain ⟨rfl, rfl⟩ := trodVars_none hV
  clear hA0 hval0
  simp only [List.append_nil] at hW'
  refine (walk  W).mono fun e W' ⟨he, hg⟩ => ?_
  subst he
  exact ⟨_, rfl, _, _, _, [], [], [], hW', (trodAll_cons_mk (shut_bool Try.underlying4 _) trodAll_mk0), rfl, rfl, hg.frame _, fun h => by cases h⟩

theorem over : Rows.edgeRangeBrimsRow.holds Try.pinned (OpenSpec.ofChange Rows.edgeRangeBrimsSpec) :=
  OpenClaim.holds_of_wide 19 Try.f19 rfl rfl rfl rfl rfl rfl rfl ⟨rfl, rfl, rfl, rfl, rfl⟩ rfl rfl rfl rfl rfl (by kernel_rfl) Try.func19 (by kernel_rfl)
    (of_decide_eq_true (by kernel_rfl)) (by unfold Func.isWrapper; first | (rw [if_pos (by decide +kernel)]; kernel_rfl) | (rw [if_neg (by decide +kernel)]; exact ⟨rfl, rfl⟩))
    (fun os started H enc _ => lifted os started H enc)

/-- THE STATEMENT -/
theorem proved : Rows.EdgeRangeBrimsSaid :=
  over
#print axioms proved
end Go.Proofs.Qxb6500378a.edgeRangeBrims
