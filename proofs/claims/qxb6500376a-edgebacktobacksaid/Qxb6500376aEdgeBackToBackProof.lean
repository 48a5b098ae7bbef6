/- Filled from the given shell of this statement. -/
import Derived.Test.Qxb6500376aRows
import Derived.WalkKit
import Derived.ProofKit
import Derived.OpenShut
import Derived.ShutString
import Derived.Test.Qxb6500376aChClosed
import Derived.RegionTactic
namespace Go.Proofs.Qxb6500376a.edgeBackToBack
open Go.ChangeShapes Go.WideShapes Go.ChangeAt Go.RowKit Go.Qu
open Go.ChangeMaps (open_string shut_string)
set_option linter.unusedVariables false      -- a walk need not use every 'w<i>' (that an integer argument fits its kind)

theorem own : ownKnob Try.prog.godebug = none := by kernel_rfl

theorem walk  (w : World) :
    Calls Try.prog 19 #[] w fun e w' => e = .returned (.bool true) ∧ Below w.heap.size w w' := by
  go_enter Try.func19, Try.ntmps19
  go_wp2_with fail
  refine (fresh_any _).mono ?_; rintro e w1 ⟨p1, l1, rfl, h1, bp1, bq1, _, _, _, _, _, c1⟩
  go_wp2_with fail
  refine (stamp_at 0 1 ⟨16, 0, 0, 18442240474082181120, 9218868437227405312, [0, 0, 0, 0, 0, 0, 0, 0], 0, 0, 0, 1, 0⟩ h1 (by decide +kernel)).mono ?_; rintro e w2 ⟨rfl, h2, c2⟩
  go_wp2_with fail
  refine (ditherC_at 7 44 ⟨16, 0, 0, 18442240474082181120, 9218868437227405312, [0, 0, 0, 0, 0, 0, 0, 0], 0, 0, 0, 2, 0⟩ h2 (by decide +kernel)).mono ?_; rintro e w3 ⟨rfl, h3, c3⟩
  go_wp2_with fail
  refine (squelchZ_at 0 ⟨16, 0, 0, 18442240474082181120, 9218868437227405312, [0, 0, 0, 0, 0, 0, 0, 0], 0, 0, 0, 2, 1⟩ h3 (by decide +kernel)).mono ?_; rintro e w4 ⟨rfl, h4, c4⟩
  go_wp2_with fail
  refine (squelchZ_at 0 ⟨16, 0, 0, 18442240474082181120, 9218868437227405312, [0, 0, 0, 0, 0, 0, 0, 0], 0, 0, 0, 2, 2⟩ h4 (by decide +kernel)).mono ?_; rintro e w5 ⟨rfl, h5, c5⟩
  go_wp2_with fail
  refine (dropped_at 2 h5 (by decide +kernel)).mono ?_; rintro e w' ⟨rfl, rfl⟩
  go_wp2_with fail
  refine (tune_at 32 0 ⟨32, 0, 0, 18442240474082181120, 9218868437227405312, [0, 0, 0, 0, 0, 0, 0, 0], 0, 0, 0, 2, 2⟩ h5 (by decide +kernel)).mono ?_; rintro e w6 ⟨rfl, h6, c6⟩
  go_wp2_with fail
  refine (feedWith_keep_at 4620693217682128896 0 8 8 0 0 ⟨32, 0, 8, 4620693217682128896, 4620693217682128896, [8, 0, 0, 0, 0, 0, 0, 0], 1, 0, 64, 2, 2⟩ h6 (by decide +kernel)).mono ?_; rintro e w7 ⟨rfl, h7, c7⟩
  go_wp2_with fail
  refine (sum_at 8 h7 (by decide +kernel)).mono ?_; rintro e w' ⟨rfl, rfl⟩
  go_wp2
  repeat (go_region; go_wp2)
  go_ret
  exact ⟨rfl, ((((((c1.nil.trans (Chg.both c2 bp1 bq1)).trans (Chg.both c3 bp1 bq1)).trans (Chg.both c4 bp1 bq1)).trans (Chg.both c5 bp1 bq1)).trans (Chg.both c6 bp1 bq1)).trans (Chg.both c7 bp1 bq1)).fin⟩

/-! ### THE ROW's STEP -/
set_option maxRecDepth 100000 in
theorem lifted (os : Os) (started : os.Started) (H : Type) (enc : TypeId × Value → H) :
    ReturnsInHanded {} Try.checked os 19 .any (Rows.edgeBackToBackSpec.pre6 enc Try.prog Try.f19 Rows.edgeBackToBackRow.domain false) (Rows.edgeBackToBackSpec.post enc Try.prog Try.f19 false true false false) := by
  refine returnsInHanded_of_change (C := Try.checked) own started (by kernel_rfl) Try.func19
    (ChangeSpec.witness6 (enc := enc) (C := Try.checked) false ⟨#[], #[], []⟩ 8 (by kernel_rfl) (by kernel_rfl) (by kernel_rfl) (by kernel_rfl)) ?_
  intro W base args ds gs before hval0 hW hcnd _
  have hval : ∀ (j : Nat) t v, Try.f19.params[j]? = some t → args[j]? = some v → Value.okWide Try.prog W .any base t v := hval0
  have hW' := hW
  obtain ⟨p, q, hA0, hV, rfl, hfz, hnd⟩ := hW
  have hA : DataW.TrodAll enc Try.prog W 0 (fun _ => true) true Try.f19.params.toList args.toList ds p := hA0
  rw [Try.params19] at hA hval
  obtain ⟨rfl, rfl, rfl⟩ := trodAll_none hA
  obtain ⟨rfl, rfl⟩ := trodVars_none hV
  clear hA0 hval0
  simp only [List.append_nil] at hW'
  refine (walk  W).mono fun e W' ⟨he, hg⟩ => ?_
  subst he
  exact ⟨_, rfl, _, _, _, [], [], [], hW', (trodAll_cons_mk (shut_bool Try.underlying4 _) trodAll_mk0), rfl, rfl, hg.frame _, fun h => by cases h⟩

theorem over : Rows.edgeBackToBackRow.holds Try.pinned (OpenSpec.ofChange Rows.edgeBackToBackSpec) :=
  OpenClaim.holds_of_wide 19 Try.f19 rfl rfl rfl rfl rfl rfl rfl ⟨rfl, rfl, rfl, rfl, rfl⟩ rfl rfl rfl rfl rfl (by kernel_rfl) Try.func19 (by kernel_rfl)
    (of_decide_eq_true (by kernel_rfl)) (by unfold Func.isWrapper; first | (rw [if_pos (by decide +kernel)]; kernel_rfl) | (rw [if_neg (by decide +kernel)]; exact ⟨rfl, rfl⟩))
    (fun os started H enc _ => lifted os started H enc)

/-- THE STATEMENT -/
theorem proved : Rows.EdgeBackToBackSaid :=
  over
#print axioms proved
end Go.Proofs.Qxb6500376a.edgeBackToBack
