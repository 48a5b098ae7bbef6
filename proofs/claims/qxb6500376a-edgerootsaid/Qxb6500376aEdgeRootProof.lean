/- Filled from the given shell of this statement. -/
import Derived.Test.Qxb6500376aRows
import Derived.WalkKit
import Derived.ProofKit
import Derived.OpenShut
import Derived.ShutString
import Derived.Test.Qxb6500376aChClosed
import Derived.RegionTactic
namespace Go.Proofs.Qxb6500376a.edgeRoot
open Go.ChangeShapes Go.WideShapes Go.ChangeAt Go.RowKit Go.Qu
open Go.ChangeMaps (open_string shut_string)
set_option linter.unusedVariables false      -- a walk need not use every 'w<i>' (that an integer argument fits its kind)

theorem own : ownKnob Try.prog.godebug = none := by kernel_rfl

theorem walk  (w : World) :
    Calls Try.prog 9 #[] w fun e w' => e = .returned (.bool true) ∧ Below w.heap.size w w' := by
  go_enter Try.func9, Try.ntmps9
  go_wp2_with fail
  refine (fresh_any _).mono ?_; rintro e w1 ⟨p1, l1, rfl, h1, bp1, bq1, _, _, _, _, _, c1⟩
  go_wp2_with fail
  refine (tune_at 32 0 ⟨32, 0, 0, 18442240474082181120, 9218868437227405312, [0, 0, 0, 0, 0, 0, 0, 0], 0, 0, 0, 0, 0⟩ h1 (by decide +kernel)).mono ?_; rintro e w2 ⟨rfl, h2, c2⟩
  go_wp2_with fail
  refine (feed_keep_at 4697254411347427328 1048576 1048576 0 0 ⟨32, 0, 1048576, 4697254411347427328, 4697254411347427328, [1048576, 0, 0, 0, 0, 0, 0, 0], 1, 0, 1099511627776, 0, 0⟩ h2 (by rfl) (by decide) (by decide +kernel)).mono ?_; rintro e w3 ⟨rfl, h3, c3⟩
  go_wp2_with fail
  refine (rms_at 8192 4665729213955833856 h3 (by decide +kernel)).mono ?_; rintro e w4 ⟨rfl, h4, c4⟩
  go_wp2_with fail
  refine (fresh_any _).mono ?_; rintro e w5 ⟨p2, l2, rfl, h5, bp2, bq2, _, _, _, _, _, c5⟩
  have A2 := (((c1.nil.trans (Chg.both c2 bp1 bq1)).trans (Chg.both c3 bp1 bq1)).trans (Chg.both c4 bp1 bq1))
  replace bp2 := Nat.le_trans A2.size bp2
  replace bq2 := Nat.le_trans A2.size bq2
  go_wp2_with fail
  refine (tune_at 32 0 ⟨32, 0, 0, 18442240474082181120, 9218868437227405312, [0, 0, 0, 0, 0, 0, 0, 0], 0, 0, 0, 0, 0⟩ h5 (by decide +kernel)).mono ?_; rintro e w6 ⟨rfl, h6, c6⟩
  go_wp2_with fail
  refine (feed_keep_at 4697254402757492736 1048575 1048575 0 0 ⟨32, 0, 1048575, 4697254402757492736, 4697254402757492736, [1048575, 0, 0, 0, 0, 0, 0, 0], 1, 0, 1099509530625, 0, 0⟩ h6 (by rfl) (by decide) (by decide +kernel)).mono ?_; rintro e w7 ⟨rfl, h7, c7⟩
  go_wp2_with fail
  refine (rms_at 8191 4665729205365895168 h7 (by decide +kernel)).mono ?_; rintro e w8 ⟨rfl, h8, c8⟩
  go_wp2
  repeat (go_region; go_wp2)
  go_ret
  exact ⟨rfl, ((((A2.trans c5.nil).trans (Chg.both c6 bp2 bq2)).trans (Chg.both c7 bp2 bq2)).trans (Chg.both c8 bp2 bq2)).fin⟩

/-! ### THE ROW's STEP -/
set_option maxRecDepth 100000 in
theorem lifted (os : Os) (started : os.Started) (H : Type) (enc : TypeId × Value → H) :
    ReturnsInHanded {} Try.checked os 9 .any (Rows.edgeRootSpec.pre6 enc Try.prog Try.f9 Rows.edgeRootRow.domain false) (Rows.edgeRootSpec.post enc Try.prog Try.f9 false true false false) := by
  refine returnsInHanded_of_change (C := Try.checked) own started (by kernel_rfl) Try.func9
    (ChangeSpec.witness6 (enc := enc) (C := Try.checked) false ⟨#[], #[], []⟩ 8 (by kernel_rfl) (by kernel_rfl) (by kernel_rfl) (by kernel_rfl)) ?_
  intro W base args ds gs before hval0 hW hcnd _
  have hval : ∀ (j : Nat) t v, Try.f9.params[j]? = some t → args[j]? = some v → Value.okWide Try.prog W .any base t v := hval0
  have hW' := hW
  obtain ⟨p, q, hA0, hV, rfl, hfz, hnd⟩ := hW
  have hA : DataW.TrodAll enc Try.prog W 0 (fun _ => true) true Try.f9.params.toList args.toList ds p := hA0
  rw [Try.params9] at hA hval
  obtain ⟨rfl, rfl, rfl⟩ := trodAll_none hA
  obtain ⟨rfl, rfl⟩ := trodVars_none hV
  clear hA0 hval0
  simp only [List.append_nil] at hW'
  refine (walk  W).mono fun e W' ⟨he, hg⟩ => ?_
  subst he
  exact ⟨_, rfl, _, _, _, [], [], [], hW', (trodAll_cons_mk (shut_bool Try.underlying4 _) trodAll_mk0), rfl, rfl, hg.frame _, fun h => by cases h⟩

theorem over : Rows.edgeRootRow.holds Try.pinned (OpenSpec.ofChange Rows.edgeRootSpec) :=
  OpenClaim.holds_of_wide 9 Try.f9 rfl rfl rfl rfl rfl rfl rfl ⟨rfl, rfl, rfl, rfl, rfl⟩ rfl rfl rfl rfl rfl (by kernel_rfl) Try.func9 (by kernel_rfl)
    (of_decide_eq_true (by kernel_rfl)) (by unfold Func.isWrapper; first | (rw [if_pos (by decide +kernel)]; kernel_rfl) | (rw [if_neg (by decide +kernel)]; exact ⟨rfl, rfl⟩))
    (fun os started H enc _ => lifted os started H enc)

/-- THE STATEMENT -/
theorem proved : Rows.EdgeRootSaid :=
  over
#print axioms proved
end Go.Proofs.Qxb6500376a.edgeRoot
