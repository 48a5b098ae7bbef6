/- Filled from the given shell of this statement. -/
import Derived.Test.Qxb6500376aRows
import Derived.WalkKit
import Derived.ProofKit
import Derived.OpenShut
import Derived.ShutString
import Derived.Test.Qxb6500376aChClosed
import Derived.RegionTactic
namespace Go.Proofs.Qxb6500376a.edgeModesHeeded
open Go.ChangeShapes Go.WideShapes Go.ChangeAt Go.RowKit Go.Qu
open Go.ChangeMaps (open_string shut_string)
set_option linter.unusedVariables false      -- a walk need not use every 'w<i>' (that an integer argument fits its kind)

theorem own : ownKnob Try.prog.godebug = none := by kernel_rfl

theorem fedAt_at (m b n v : Int) (s1 s2 : CS) (c' : Int) (w : World) (h1 : (decide (1 ≤ (32 : Int)) && decide ((32 : Int) ≤ 32) && decide (0 ≤ m) && decide (m ≤ 3) && csEq { cs0 with depth := 32, mode := m } s1) = true) (ha : s1.at_ = 0) (h2 : keepOk s1 b (6 * ((0 : Nat) : Int)) 0 n v 0 c' s2 = true) :
    Calls Try.prog 28 #[.int .i64 m, .int .i64 b] w fun e w' => e = .returned (.int .i64 n) ∧ Chg (fun _ => False) w w' := by
  go_enter Try.func28, Try.ntmps28
  go_wp2_with fail
  refine (fresh_any _).mono ?_; rintro e w1 ⟨p1, l1, rfl, k1, bp1, bq1, _, _, _, _, _, c1⟩
  go_wp2_with fail
  refine (tune_at 32 m s1 k1 h1).mono ?_; rintro e w2 ⟨rfl, k2, c2⟩
  go_wp2_with fail
  refine (feed_keep_at b n v 0 c' s2 k2 ha (by decide) h2).mono ?_; rintro e w3 ⟨rfl, k3, c3⟩
  go_wp2
  go_ret
  exact ⟨rfl, ((c1.nil.trans (Chg.both c2 bp1 bq1)).trans (Chg.both c3 bp1 bq1)).mono fun k hk e => absurd e (Nat.not_le.2 hk)⟩

theorem walk  (w : World) :
    Calls Try.prog 8 #[] w fun e w' => e = .returned (.bool true) ∧ Below w.heap.size w w' := by
  go_enter Try.func8, Try.ntmps8
  go_wp2_with fail
  refine (fedAt_at 2 4612811918334230528 3 3 ⟨32, 2, 0, 18442240474082181120, 9218868437227405312, [0, 0, 0, 0, 0, 0, 0, 0], 0, 0, 0, 0, 0⟩ ⟨32, 2, 3, 4612811918334230528, 4612811918334230528, [3, 0, 0, 0, 0, 0, 0, 0], 1, 0, 9, 0, 0⟩ 0 _ (by decide +kernel) (by rfl) (by decide +kernel)).mono ?_; rintro e w1 ⟨rfl, c1⟩
  go_wp2_with fail
  refine (fedAt_at 2 (-4610560118520545280) (-2) (-2) ⟨32, 2, 0, 18442240474082181120, 9218868437227405312, [0, 0, 0, 0, 0, 0, 0, 0], 0, 0, 0, 0, 0⟩ ⟨32, 2, (-2), 13836183955189006336, 13836183955189006336, [-2, 0, 0, 0, 0, 0, 0, 0], 1, 0, 4, 0, 0⟩ 0 _ (by decide +kernel) (by rfl) (by decide +kernel)).mono ?_; rintro e w2 ⟨rfl, c2⟩
  go_wp2_with fail
  refine (fedAt_at 1 4612811918334230528 2 2 ⟨32, 1, 0, 18442240474082181120, 9218868437227405312, [0, 0, 0, 0, 0, 0, 0, 0], 0, 0, 0, 0, 0⟩ ⟨32, 1, 2, 4612811918334230528, 4612811918334230528, [2, 0, 0, 0, 0, 0, 0, 0], 1, 0, 4, 0, 0⟩ 0 _ (by decide +kernel) (by rfl) (by decide +kernel)).mono ?_; rintro e w3 ⟨rfl, c3⟩
  go_wp2_with fail
  refine (fedAt_at 1 (-4610560118520545280) (-3) (-3) ⟨32, 1, 0, 18442240474082181120, 9218868437227405312, [0, 0, 0, 0, 0, 0, 0, 0], 0, 0, 0, 0, 0⟩ ⟨32, 1, (-3), 13836183955189006336, 13836183955189006336, [-3, 0, 0, 0, 0, 0, 0, 0], 1, 0, 9, 0, 0⟩ 0 _ (by decide +kernel) (by rfl) (by decide +kernel)).mono ?_; rintro e w4 ⟨rfl, c4⟩
  go_wp2_with fail
  refine (fedAt_at 0 (-4610560118520545280) (-2) (-2) ⟨32, 0, 0, 18442240474082181120, 9218868437227405312, [0, 0, 0, 0, 0, 0, 0, 0], 0, 0, 0, 0, 0⟩ ⟨32, 0, (-2), 13836183955189006336, 13836183955189006336, [-2, 0, 0, 0, 0, 0, 0, 0], 1, 0, 4, 0, 0⟩ 0 _ (by decide +kernel) (by rfl) (by decide +kernel)).mono ?_; rintro e w5 ⟨rfl, c5⟩
  go_wp2_with fail
  refine (fedAt_at 3 4612811918334230528 2 2 ⟨32, 3, 0, 18442240474082181120, 9218868437227405312, [0, 0, 0, 0, 0, 0, 0, 0], 0, 0, 0, 0, 0⟩ ⟨32, 3, 2, 4612811918334230528, 4612811918334230528, [2, 0, 0, 0, 0, 0, 0, 0], 1, 0, 4, 0, 0⟩ 0 _ (by decide +kernel) (by rfl) (by decide +kernel)).mono ?_; rintro e w6 ⟨rfl, c6⟩
  go_wp2_with fail
  refine (fedAt_at 3 4615063718147915776 4 4 ⟨32, 3, 0, 18442240474082181120, 9218868437227405312, [0, 0, 0, 0, 0, 0, 0, 0], 0, 0, 0, 0, 0⟩ ⟨32, 3, 4, 4615063718147915776, 4615063718147915776, [4, 0, 0, 0, 0, 0, 0, 0], 1, 0, 16, 0, 0⟩ 0 _ (by decide +kernel) (by rfl) (by decide +kernel)).mono ?_; rintro e w7 ⟨rfl, c7⟩
  go_wp2
  repeat (go_region; go_wp2)
  go_ret
  exact ⟨rfl, ((((((c1.trans c2).trans c3).trans c4).trans c5).trans c6).trans c7).nil.fin⟩

/-! ### THE ROW's STEP -/
set_option maxRecDepth 100000 in
theorem lifted (os : Os) (started : os.Started) (H : Type) (enc : TypeId × Value → H) :
    ReturnsInHanded {} Try.checked os 8 .any (Rows.edgeModesHeededSpec.pre6 enc Try.prog Try.f8 Rows.edgeModesHeededRow.domain false) (Rows.edgeModesHeededSpec.post enc Try.prog Try.f8 false true false false) := by
  refine returnsInHanded_of_change (C := Try.checked) own started (by kernel_rfl) Try.func8
    (ChangeSpec.witness6 (enc := enc) (C := Try.checked) false ⟨#[], #[], []⟩ 8 (by kernel_rfl) (by kernel_rfl) (by kernel_rfl) (by kernel_rfl)) ?_
  intro W base args ds gs before hval0 hW hcnd _
  have hval : ∀ (j : Nat) t v, Try.f8.params[j]? = some t → args[j]? = some v → Value.okWide Try.prog W .any base t v := hval0
  have hW' := hW
  obtain ⟨p, q, hA0, hV, rfl, hfz, hnd⟩ := hW
  have hA : DataW.TrodAll enc Try.prog W 0 (fun _ => true) true Try.f8.params.toList args.toList ds p := hA0
  rw [Try.params8] at hA hval
  obtain ⟨rfl, rfl, rfl⟩ := trodAll_none hA
  obtain ⟨rfl, rfl⟩ := trodVars_none hV
  clear hA0 hval0
  simp only [List.append_nil] at hW'
  refine (walk  W).mono fun e W' ⟨he, hg⟩ => ?_
  subst he
  exact ⟨_, rfl, _, _, _, [], [], [], hW', (trodAll_cons_mk (shut_bool Try.underlying4 _) trodAll_mk0), rfl, rfl, hg.frame _, fun h => by cases h⟩

theorem over : Rows.edgeModesHeededRow.holds Try.pinned (OpenSpec.ofChange Rows.edgeModesHeededSpec) :=
  OpenClaim.holds_of_wide 8 Try.f8 rfl rfl rfl rfl rfl rfl rfl ⟨rfl, rfl, rfl, rfl, rfl⟩ rfl rfl rfl rfl rfl (by kernel_rfl) Try.func8 (by kernel_rfl)
    (of_decide_eq_true (by kernel_rfl)) (by unfold Func.isWrapper; first | (rw [if_pos (by decide +kernel)]; kernel_rfl) | (rw [if_neg (by decide +kernel)]; exact ⟨rfl, rfl⟩))
    (fun os started H enc _ => lifted os started H enc)

/-- THE STATEMENT -/
theorem proved : Rows.EdgeModesHeededSaid :=
  over
#print axioms proved
end Go.Proofs.Qxb6500376a.edgeModesHeeded
