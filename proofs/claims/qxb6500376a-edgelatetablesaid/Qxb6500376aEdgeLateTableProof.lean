/- Filled from the given shell of this statement. -/
import Derived.Test.Qxb6500376aRows
import Derived.WalkKit
import Derived.ProofKit
import Derived.OpenShut
import Derived.ShutString
import Derived.Test.Qxb6500376aChSquelch
import Derived.RegionTactic
namespace Go.Proofs.Qxb6500376a.edgeLateTable
open Go.ChangeShapes Go.WideShapes Go.ChangeAt Go.RowKit
open Go.ChangeMaps (open_string shut_string)
set_option linter.unusedVariables false      -- a walk need not use every 'w<i>' (that an integer argument fits its kind)

theorem own : ownKnob Try.prog.godebug = none := by kernel_rfl

theorem walk  (w : World) :
    Calls Try.prog 18 #[] w fun e w' => e = .returned (.bool true) ∧ Below w.heap.size w w' := by
  go_enter Try.func18, Try.ntmps18
  go_wp2_with fail
  refine (fresh_any _).mono ?_; rintro e w0 ⟨p, l, rfl, h0, b1, b2, _, _, _, _, _, c0⟩
  go_wp2_with fail
  refine wp_loop_rounds 9 ?_
  rw [rounds_succ]; go_wp2_with fail
  refine (dither_at 0 1 1 h0 (by decide) (by decide +kernel) (by decide +kernel)).mono ?_; rintro e w1 ⟨rfl, h1, c1⟩
  go_wp2
  repeat (go_region; go_wp2)
  rw [rounds_succ]; go_wp2_with fail
  refine (dither_at 1 8 2 h1 (by decide) (by decide +kernel) (by decide +kernel)).mono ?_; rintro e w2 ⟨rfl, h2, c2⟩
  go_wp2
  repeat (go_region; go_wp2)
  rw [rounds_succ]; go_wp2_with fail
  refine (dither_at 2 15 3 h2 (by decide) (by decide +kernel) (by decide +kernel)).mono ?_; rintro e w3 ⟨rfl, h3, c3⟩
  go_wp2
  repeat (go_region; go_wp2)
  rw [rounds_succ]; go_wp2_with fail
  refine (dither_at 3 22 4 h3 (by decide) (by decide +kernel) (by decide +kernel)).mono ?_; rintro e w4 ⟨rfl, h4, c4⟩
  go_wp2
  repeat (go_region; go_wp2)
  rw [rounds_succ]; go_wp2_with fail
  refine (dither_at 4 29 5 h4 (by decide) (by decide +kernel) (by decide +kernel)).mono ?_; rintro e w5 ⟨rfl, h5, c5⟩
  go_wp2
  repeat (go_region; go_wp2)
  rw [rounds_succ]; go_wp2_with fail
  refine (dither_at 5 36 6 h5 (by decide) (by decide +kernel) (by decide +kernel)).mono ?_; rintro e w6 ⟨rfl, h6, c6⟩
  go_wp2
  repeat (go_region; go_wp2)
  rw [rounds_succ]; go_wp2_with fail
  refine (dither_at 6 43 7 h6 (by decide) (by decide +kernel) (by decide +kernel)).mono ?_; rintro e w7 ⟨rfl, h7, c7⟩
  go_wp2
  repeat (go_region; go_wp2)
  rw [rounds_succ]; go_wp2_with fail
  refine (dither_at 7 50 8 h7 (by decide) (by decide +kernel) (by decide +kernel)).mono ?_; rintro e w8 ⟨rfl, h8, c8⟩
  go_wp2
  repeat (go_region; go_wp2)
  rw [rounds_succ]; go_wp2
  repeat (go_region; go_wp2)
  go_ret
  exact ⟨rfl, ((((((((c0.nil.trans (c1.at b1)).trans (c2.at b1)).trans (c3.at b1)).trans (c4.at b1)).trans (c5.at b1)).trans (c6.at b1)).trans (c7.at b1)).trans (c8.at b1)).fin⟩

/-! ### THE ROW's STEP -/
set_option maxRecDepth 100000 in
theorem lifted (os : Os) (started : os.Started) (H : Type) (enc : TypeId × Value → H) :
    ReturnsInHanded {} Try.checked os 18 .any (Rows.edgeLateTableSpec.pre6 enc Try.prog Try.f18 Rows.edgeLateTableRow.domain false) (Rows.edgeLateTableSpec.post enc Try.prog Try.f18 false true false false) := by
  refine returnsInHanded_of_change (C := Try.checked) own started (by kernel_rfl) Try.func18
    (ChangeSpec.witness6 (enc := enc) (C := Try.checked) false ⟨#[], #[], []⟩ 8 (by kernel_rfl) (by kernel_rfl) (by kernel_rfl) (by kernel_rfl)) ?_
  intro W base args ds gs before hval0 hW hcnd _
  have hval : ∀ (j : Nat) t v, Try.f18.params[j]? = some t → args[j]? = some v → Value.okWide Try.prog W .any base t v := hval0
  have hW' := hW
  obtain ⟨p, q, hA0, hV, rfl, hfz, hnd⟩ := hW
  have hA : DataW.TrodAll enc Try.prog W 0 (fun _ => true) true Try.f18.params.toList args.toList ds p := hA0
  rw [Try.params18] at hA hval
  obtain ⟨rfl, rfl, rfl⟩ := trodAll_none hA
  obtain ⟨rfl, rfl⟩ := trodVars_none hV
  clear hA0 hval0
  simp only [List.append_nil] at hW'
  refine (walk  W).mono fun e W' ⟨he, hg⟩ => ?_
  subst he
  exact ⟨_, rfl, _, _, _, [], [], [], hW', (trodAll_cons_mk (shut_bool Try.underlying4 _) trodAll_mk0), rfl, rfl, hg.frame _, fun h => by cases h⟩

theorem over : Rows.edgeLateTableRow.holds Try.pinned (OpenSpec.ofChange Rows.edgeLateTableSpec) :=
  OpenClaim.holds_of_wide 18 Try.f18 rfl rfl rfl rfl rfl rfl rfl ⟨rfl, rfl, rfl, rfl, rfl⟩ rfl rfl rfl rfl rfl (by kernel_rfl) Try.func18 (by kernel_rfl)
    (of_decide_eq_true (by kernel_rfl)) (by unfold Func.isWrapper; first | (rw [if_pos (by decide +kernel)]; kernel_rfl) | (rw [if_neg (by decide +kernel)]; exact ⟨rfl, rfl⟩))
    (fun os started H enc _ => lifted os started H enc)

/-- THE STATEMENT -/
theorem proved : Rows.EdgeLateTableSaid :=
  over
#print axioms proved
end Go.Proofs.Qxb6500376a.edgeLateTable
