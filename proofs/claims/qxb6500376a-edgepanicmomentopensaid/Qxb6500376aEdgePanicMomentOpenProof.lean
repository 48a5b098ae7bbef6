/- Filled from the given shell of this statement. -/
import Derived.Test.Qxb6500376aRows
import Derived.WalkKit
import Derived.ProofKit
import Derived.OpenShut
import Derived.ShutString
import Derived.Test.Qxb6500376aChDitherL
namespace Go.Proofs.Qxb6500376a.edgePanicMomentOpen
open Go.ChangeShapes Go.WideShapes Go.ChangeAt Go.RowKit Go.Qu
open Go.ChangeMaps (open_string shut_string)
set_option linter.unusedVariables false      -- a walk need not use every 'w<i>' (that an integer argument fits its kind)

theorem own : ownKnob Try.prog.godebug = none := by kernel_rfl

theorem seq_is (v : Int) {p : Nat} {l : Lk} {s : CS} {c z : Int} {w : World} (h : CA w p l s c z) (hv : s.seq = v) :
    Calls Try.prog 34 #[.pointer (some ⟨p, 0, none⟩)] w fun e w' => e = .returned (.int .i64 v) ∧ w' = w := hv ▸ seq_any p l s c z w h

theorem walk  (w : World) :
    Calls Try.prog 14 #[] w fun e w' => e = .returned (.bool true) ∧ Below w.heap.size w w' := by
  go_enter Try.func14, Try.ntmps14
  go_wp2_with fail
  refine (fresh_any _).mono ?_; rintro e w1 ⟨p1, l1, rfl, h1, bp1, bq1, _, _, _, _, _, c1⟩
  go_wp2_with fail
  refine (ditherLoose_out p1 l1 _ _ _ 8 _ h1 (.inr (by decide))).mono ?_; rintro e w2 ⟨rfl, h2, c2⟩
  rcases h2 with h2 | h2
  · go_wp2_with fail
    refine (seq_is 0 h2 rfl).mono ?_; rintro e w' ⟨rfl, rfl⟩
    go_wp2_with fail
    refine (ditherLoose_out p1 l1 _ _ _ (-1) _ h2 (.inl (by decide))).mono ?_; rintro e w3 ⟨rfl, h3, c3⟩
    have C := (c1.nil.trans (c2.at bp1)).trans (c3.at bp1)
    rcases h3 with h3 | h3
    · go_wp2_with fail
      refine (seq_is 0 h3 rfl).mono ?_; rintro e w' ⟨rfl, rfl⟩
      go_wp2
      repeat (go_region; go_wp2)
      go_ret
      exact ⟨rfl, C.fin⟩
    · go_wp2_with fail
      refine (seq_is 1 h3 (by decide +kernel)).mono ?_; rintro e w' ⟨rfl, rfl⟩
      go_wp2
      repeat (go_region; go_wp2)
      go_ret
      exact ⟨rfl, C.fin⟩
  · go_wp2_with fail
    refine (seq_is 1 h2 (by decide +kernel)).mono ?_; rintro e w' ⟨rfl, rfl⟩
    go_wp2_with fail
    refine (ditherLoose_out p1 l1 _ _ _ (-1) _ h2 (.inl (by decide))).mono ?_; rintro e w3 ⟨rfl, h3, c3⟩
    have C := (c1.nil.trans (c2.at bp1)).trans (c3.at bp1)
    rcases h3 with h3 | h3
    · go_wp2_with fail
      refine (seq_is 1 h3 (by decide +kernel)).mono ?_; rintro e w' ⟨rfl, rfl⟩
      go_wp2
      repeat (go_region; go_wp2)
      go_ret
      exact ⟨rfl, C.fin⟩
    · go_wp2_with fail
      refine (seq_is 2 h3 (by decide +kernel)).mono ?_; rintro e w' ⟨rfl, rfl⟩
      go_wp2
      repeat (go_region; go_wp2)
      go_ret
      exact ⟨rfl, C.fin⟩

/-! ### THE ROW's STEP -/
set_option maxRecDepth 100000 in
theorem lifted (os : Os) (started : os.Started) (H : Type) (enc : TypeId × Value → H) :
    ReturnsInHanded {} Try.checked os 14 .any (Rows.edgePanicMomentOpenSpec.pre6 enc Try.prog Try.f14 Rows.edgePanicMomentOpenRow.domain false) (Rows.edgePanicMomentOpenSpec.post enc Try.prog Try.f14 false true false false) := by
  refine returnsInHanded_of_change (C := Try.checked) own started (by kernel_rfl) Try.func14
    (ChangeSpec.witness6 (enc := enc) (C := Try.checked) false ⟨#[], #[], []⟩ 8 (by kernel_rfl) (by kernel_rfl) (by kernel_rfl) (by kernel_rfl)) ?_
  intro W base args ds gs before hval0 hW hcnd _
  have hval : ∀ (j : Nat) t v, Try.f14.params[j]? = some t → args[j]? = some v → Value.okWide Try.prog W .any base t v := hval0
  have hW' := hW
  obtain ⟨p, q, hA0, hV, rfl, hfz, hnd⟩ := hW
  have hA : DataW.TrodAll enc Try.prog W 0 (fun _ => true) true Try.f14.params.toList args.toList ds p := hA0
  rw [Try.params14] at hA hval
  obtain ⟨rfl, rfl, rfl⟩ := trodAll_none hA
  obtain ⟨rfl, rfl⟩ := trodVars_none hV
  clear hA0 hval0
  simp only [List.append_nil] at hW'
  refine (walk  W).mono fun e W' ⟨he, hg⟩ => ?_
  subst he
  exact ⟨_, rfl, _, _, _, [], [], [], hW', (trodAll_cons_mk (shut_bool Try.underlying4 _) trodAll_mk0), rfl, rfl, hg.frame _, fun h => by cases h⟩

theorem over : Rows.edgePanicMomentOpenRow.holds Try.pinned (OpenSpec.ofChange Rows.edgePanicMomentOpenSpec) :=
  OpenClaim.holds_of_wide 14 Try.f14 rfl rfl rfl rfl rfl rfl rfl ⟨rfl, rfl, rfl, rfl, rfl⟩ rfl rfl rfl rfl rfl (by kernel_rfl) Try.func14 (by kernel_rfl)
    (of_decide_eq_true (by kernel_rfl)) (by unfold Func.isWrapper; first | (rw [if_pos (by decide +kernel)]; kernel_rfl) | (rw [if_neg (by decide +kernel)]; exact ⟨rfl, rfl⟩))
    (fun os started H enc _ => lifted os started H enc)

/-- THE STATEMENT -/
theorem proved : Rows.EdgePanicMomentOpenSaid :=
  over
#print axioms proved
end Go.Proofs.Qxb6500376a.edgePanicMomentOpen
