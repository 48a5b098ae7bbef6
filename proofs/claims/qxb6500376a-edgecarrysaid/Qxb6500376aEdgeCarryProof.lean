/- Filled from the given shell of this statement. -/
import Derived.Test.Qxb6500376aRows
import Derived.WalkKit
import Derived.ProofKit
import Derived.OpenShut
import Derived.ShutString
import Derived.Test.Qxb6500376aChCheck
namespace Go.Proofs.Qxb6500376a.edgeCarry
open Go.ChangeShapes Go.WideShapes Go.ChangeAt Go.RowKit Go.Qu
open Go.ChangeMaps (open_string shut_string)
set_option linter.unusedVariables false      -- a walk need not use every 'w<i>' (that an integer argument fits its kind)

theorem own : ownKnob Try.prog.godebug = none := by kernel_rfl

theorem walk  (w : World) :
    Calls Try.prog 5 #[] w fun e w' => e = .returned (.bool true) ∧ Below w.heap.size w w' := by
  go_enter Try.func5, Try.ntmps5
  go_wp2_with fail
  refine (fresh_any _).mono ?_; rintro e w1 ⟨p1, l1, rfl, h1, bp1, bq1, _, _, _, _, _, c1⟩
  go_wp2_with fail
  refine (tune_at 32 0 ⟨32, 0, 0, 18442240474082181120, 9218868437227405312, [0, 0, 0, 0, 0, 0, 0, 0], 0, 0, 0, 0, 0⟩ h1 (by decide +kernel)).mono ?_; rintro e w2 ⟨rfl, h2, c2⟩
  go_wp2_with fail
  refine wp_loop_rounds 9 ?_
  rw [rounds_succ]
  go_wp2_with fail
  refine (feed_keep_at 9218868437227405312 2147483647 2147483647 0 1 ⟨32, 0, 2147483647, 9218868437227405312, 9218868437227405312, [2147483647, 0, 0, 0, 0, 0, 0, 0], 1, 0, 4611686014132420609, 0, 0⟩ h2 (by rfl) (by decide) (by decide +kernel)).mono ?_; rintro e w3 ⟨rfl, h3, c3⟩
  go_wp2_with fail
  rw [rounds_succ]
  go_wp2_with fail
  refine (feed_keep_at 9218868437227405312 2147483647 (-2147483643) 1 2 ⟨32, 0, (-26), 9218868437227405312, 9218868437227405312, [2147483647, -2147483643, 0, 0, 0, 0, 0, 0], 2, 0, 9223372011084972058, 0, 0⟩ h3 (by rfl) (by decide) (by decide +kernel)).mono ?_; rintro e w4 ⟨rfl, h4, c4⟩
  go_wp2_with fail
  rw [rounds_succ]
  go_wp2_with fail
  refine (feed_keep_at 9218868437227405312 2147483647 (-2147483637) 2 3 ⟨32, 0, 2147482853, 9218868437227405312, 9218868437227405312, [2147483647, -2147483643, -2147483637, 0, 0, 0, 0, 0], 3, 0, 13835057982267719827, 0, 0⟩ h4 (by rfl) (by decide) (by decide +kernel)).mono ?_; rintro e w5 ⟨rfl, h5, c5⟩
  go_wp2_with fail
  rw [rounds_succ]
  go_wp2_with fail
  refine (feed_keep_at 9218868437227405312 2147483647 (-2147483631) 3 4 ⟨32, 0, (-24628), 9218868437227405312, 9218868437227405312, [2147483647, -2147483643, -2147483637, -2147483631, 0, 0, 0, 0], 4, 0, 18446743927680663988, 0, 0⟩ h5 (by rfl) (by decide) (by decide +kernel)).mono ?_; rintro e w6 ⟨rfl, h6, c6⟩
  go_wp2_with fail
  rw [rounds_succ]
  go_wp2_with fail
  refine (feed_keep_at 9218868437227405312 2147483647 (-2147483625) 4 5 ⟨32, 0, 2146720203, 9218868437227405312, 9218868437227405312, [2147483647, -2147483643, -2147483637, -2147483631, -2147483625, 0, 0, 0], 5, 1, 4611685773614252997, 0, 0⟩ h6 (by rfl) (by decide) (by decide +kernel)).mono ?_; rintro e w7 ⟨rfl, h7, c7⟩
  go_wp2_with fail
  rw [rounds_succ]
  go_wp2_with fail
  refine (feed_keep_at 9218868437227405312 2147483647 (-2147483619) 5 6 ⟨32, 0, (-23666766), 9218868437227405312, 9218868437227405312, [2147483647, -2147483643, -2147483637, -2147483631, -2147483625, -2147483619, 0, 0], 6, 1, 9223371667487590158, 0, 0⟩ h7 (by rfl) (by decide) (by decide +kernel)).mono ?_; rintro e w8 ⟨rfl, h8, c8⟩
  go_wp2_with fail
  rw [rounds_succ]
  go_wp2_with fail
  refine (feed_keep_at 9218868437227405312 2147483647 (-2147483613) 6 7 ⟨32, 0, 1413813937, 9218868437227405312, 9218868437227405312, [2147483647, -2147483643, -2147483637, -2147483631, -2147483625, -2147483619, -2147483613, 0], 7, 1, 13835057535591123927, 0, 0⟩ h8 (by rfl) (by decide) (by decide +kernel)).mono ?_; rintro e w9 ⟨rfl, h9, c9⟩
  go_wp2_with fail
  rw [rounds_succ]
  go_wp2_with fail
  refine (feed_keep_at 9218868437227405312 2147483647 (-2147483607) 7 8 ⟨32, 0, (-1268924520), 9218868437227405312, 9218868437227405312, [2147483647, -2147483643, -2147483637, -2147483631, -2147483625, -2147483619, -2147483613, -2147483607], 0, 1, 18446743377924854376, 0, 0⟩ h9 (by rfl) (by decide) (by decide +kernel)).mono ?_; rintro e w10 ⟨rfl, h10, c10⟩
  go_wp2_with fail
  rw [rounds_succ]
  go_wp2_with fail
  refine (energy_at 8589934430 4712 h10 (by decide +kernel)).mono ?_; rintro e w11 ⟨rfl, h11, c11⟩
  go_wp2_with fail
  refine (check_at h11 (by decide +kernel)).mono ?_; rintro e w12 ⟨rfl, h12, c12⟩
  go_wp2
  repeat (go_region; go_wp2)
  go_ret
  exact ⟨rfl, (((((((((((c1.nil.trans (Chg.both c2 bp1 bq1)).trans (Chg.both c3 bp1 bq1)).trans (Chg.both c4 bp1 bq1)).trans (Chg.both c5 bp1 bq1)).trans (Chg.both c6 bp1 bq1)).trans (Chg.both c7 bp1 bq1)).trans (Chg.both c8 bp1 bq1)).trans (Chg.both c9 bp1 bq1)).trans (Chg.both c10 bp1 bq1)).trans (Chg.both c11 bp1 bq1)).trans c12.nil).fin⟩

/-! ### THE ROW's STEP -/
set_option maxRecDepth 100000 in
theorem lifted (os : Os) (started : os.Started) (H : Type) (enc : TypeId × Value → H) :
    ReturnsInHanded {} Try.checked os 5 .any (Rows.edgeCarrySpec.pre6 enc Try.prog Try.f5 Rows.edgeCarryRow.domain false) (Rows.edgeCarrySpec.post enc Try.prog Try.f5 false true false false) := by
  refine returnsInHanded_of_change (C := Try.checked) own started (by kernel_rfl) Try.func5
    (ChangeSpec.witness6 (enc := enc) (C := Try.checked) false ⟨#[], #[], []⟩ 8 (by kernel_rfl) (by kernel_rfl) (by kernel_rfl) (by kernel_rfl)) ?_
  intro W base args ds gs before hval0 hW hcnd _
  have hval : ∀ (j : Nat) t v, Try.f5.params[j]? = some t → args[j]? = some v → Value.okWide Try.prog W .any base t v := hval0
  have hW' := hW
  obtain ⟨p, q, hA0, hV, rfl, hfz, hnd⟩ := hW
  have hA : DataW.TrodAll enc Try.prog W 0 (fun _ => true) true Try.f5.params.toList args.toList ds p := hA0
  rw [Try.params5] at hA hval
  obtain ⟨rfl, rfl, rfl⟩ := trodAll_none hA
  obtain ⟨rfl, rfl⟩ := trodVars_none hV
  clear hA0 hval0
  simp only [List.append_nil] at hW'
  refine (walk  W).mono fun e W' ⟨he, hg⟩ => ?_
  subst he
  exact ⟨_, rfl, _, _, _, [], [], [], hW', (trodAll_cons_mk (shut_bool Try.underlying4 _) trodAll_mk0), rfl, rfl, hg.frame _, fun h => by cases h⟩

theorem over : Rows.edgeCarryRow.holds Try.pinned (OpenSpec.ofChange Rows.edgeCarrySpec) :=
  OpenClaim.holds_of_wide 5 Try.f5 rfl rfl rfl rfl rfl rfl rfl ⟨rfl, rfl, rfl, rfl, rfl⟩ rfl rfl rfl rfl rfl (by kernel_rfl) Try.func5 (by kernel_rfl)
    (of_decide_eq_true (by kernel_rfl)) (by unfold Func.isWrapper; first | (rw [if_pos (by decide +kernel)]; kernel_rfl) | (rw [if_neg (by decide +kernel)]; exact ⟨rfl, rfl⟩))
    (fun os started H enc _ => lifted os started H enc)

/-- THE STATEMENT -/
theorem proved : Rows.EdgeCarrySaid :=
  over
#print axioms proved
end Go.Proofs.Qxb6500376a.edgeCarry
