/- Filled from the given shell of this statement. -/
import Derived.Test.Qxb6500376aRows
import Derived.WalkKit
import Derived.ProofKit
import Derived.OpenShut
import Derived.ShutString
import Derived.Test.Qxb6500376aChClosed
import Derived.RegionTactic
namespace Go.Proofs.Qxb6500376a.edgeSpanZeros
open Go.ChangeShapes Go.WideShapes Go.ChangeAt Go.RowKit Go.Qu
open Go.ChangeMaps (open_string shut_string)
set_option linter.unusedVariables false      -- a walk need not use every 'w<i>' (that an integer argument fits its kind)

theorem own : ownKnob Try.prog.godebug = none := by kernel_rfl

theorem walk  (w : World) :
    Calls Try.prog 11 #[] w fun e w' => e = .returned (.bool true) ∧ Below w.heap.size w w' := by
  go_enter Try.func11, Try.ntmps11
  go_wp2_with fail
  refine (fresh_any _).mono ?_; rintro e w1 ⟨p1, l1, rfl, h1, bp1, bq1, _, _, _, _, _, c1⟩
  go_wp2_with fail
  refine (feed_drop_at (-9223372036854775808) 0 0 0 ⟨16, 0, 0, 9223372036854775808, 9223372036854775808, [0, 0, 0, 0, 0, 0, 0, 0], 0, 0, 0, 0, 1⟩ h1 (by rfl) (by decide) (by decide +kernel)).mono ?_; rintro e w2 ⟨rfl, h2, c2⟩
  go_wp2_with fail
  refine (span_at 0 (-9223372036854775808) h2 (by decide +kernel)).mono ?_; rintro e w3 ⟨rfl, h3, c3⟩
  go_wp2
  repeat (go_region; go_wp2)
  go_ret
  exact ⟨rfl, ((c1.nil.trans (Chg.both c2 bp1 bq1)).trans (Chg.both c3 bp1 bq1)).fin⟩

/-! ### THE ROW's STEP -/
set_option maxRecDepth 100000 in
theorem lifted (os : Os) (started : os.Started) (H : Type) (enc : TypeId × Value → H) :
    ReturnsInHanded {} Try.checked os 11 .any (Rows.edgeSpanZerosSpec.pre6 enc Try.prog Try.f11 Rows.edgeSpanZerosRow.domain false) (Rows.edgeSpanZerosSpec.post enc Try.prog Try.f11 false true false false) := by
  refine returnsInHanded_of_change (C := Try.checked) own started (by kernel_rfl) Try.func11
    (ChangeSpec.witness6 (enc := enc) (C := Try.checked) false ⟨#[], #[], []⟩ 8 (by kernel_rfl) (by kernel_rfl) (by kernel_rfl) (by kernel_rfl)) ?_
  intro W base args ds gs before hval0 hW hcnd _
  have hval : ∀ (j : Nat) t v, Try.f11.params[j]? = some t → args[j]? = some v → Value.okWide Try.prog W .any base t v := hval0
  have hW' := hW
  obtain ⟨p, q, hA0, hV, rfl, hfz, hnd⟩ := hW
  have hA : DataW.TrodAll enc Try.prog W 0 (fun _ => true) true Try.f11.params.toList args.toList ds p := hA0
  rw [Try.params11] at hA hval
  obtain ⟨rfl, rfl, rfl⟩ := trodAll_none hA
  obtain ⟨rfl, rfl⟩ := trodVars_none hV
  clear hA0 hval0
  simp only [List.append_nil] at hW'
  refine (walk  W).mono fun e W' ⟨he, hg⟩ => ?_
  subst he
  exact ⟨_, rfl, _, _, _, [], [], [], hW', (trodAll_cons_mk (shut_bool Try.underlying4 _) trodAll_mk0), rfl, rfl, hg.frame _, fun h => by cases h⟩

theorem over : Rows.edgeSpanZerosRow.holds Try.pinned (OpenSpec.ofChange Rows.edgeSpanZerosSpec) :=
  OpenClaim.holds_of_wide 11 Try.f11 rfl rfl rfl rfl rfl rfl rfl ⟨rfl, rfl, rfl, rfl, rfl⟩ rfl rfl rfl rfl rfl (by kernel_rfl) Try.func11 (by kernel_rfl)
    (of_decide_eq_true (by kernel_rfl)) (by unfold Func.isWrapper; first | (rw [if_pos (by decide +kernel)]; kernel_rfl) | (rw [if_neg (by decide +kernel)]; exact ⟨rfl, rfl⟩))
    (fun os started H enc _ => lifted os started H enc)

/-- THE STATEMENT -/
theorem proved : Rows.EdgeSpanZerosSaid :=
  over
#print axioms proved
end Go.Proofs.Qxb6500376a.edgeSpanZeros
