/- The tied card of EdgeOpenInt32. -/
import Derived.Test.Qxb6500378aDoorCards
import Derived.Test.Qxb6500378aDoorTie
import Derived.Test.Qxb6500378aDoorDoorBase
import Derived.SevenTiedAt
import Derived.Test.Qxb6500378aDoorQuWild
namespace Go.Proofs.Qxb6500378aDoor.edgeOpenInt32
open Go.ChangeShapes Go.WideShapes Go.ChangeAt Go.RowKit Go.Qu
set_option linter.unusedVariables false
set_option linter.unusedSimpArgs false


theorem walk (w : World) (ht : Tab w) :
    Calls Tryd.prog 9 #[] w fun e w' => e = .returned (.bool true) ∧ Below w.heap.size w w' := by
  go_enter Tryd.func9, Tryd.ntmps9
  go_wp2_with fail
  refine (new_any _).mono ?_; rintro e w1 ⟨rfl, q1, s1, c1⟩
  go_wp2_with fail
  refine (fast32_wild _ 4746794007248502784 0 _ (by decide) (by decide) (by decide) (by decide +kernel)).mono ?_; rintro e w2 ⟨n1, rfl, a1, b1, rfl⟩
  go_wp2_with fail
  refine (fast32_wild _ 9218868437227405312 0 _ (by decide) (by decide) (by decide) (by decide +kernel)).mono ?_; rintro e w2 ⟨n2, rfl, a2, b2, rfl⟩
  go_wp2_with fail
  refine (fast32_wild _ 9221120237041090560 0 _ (by decide) (by decide) (by decide) (by decide +kernel)).mono ?_; rintro e w2 ⟨n3, rfl, a3, b3, rfl⟩
  go_wp2_with fail
  refine (show_any _ _ _ _ q1.drew.drew.drew (ht.nil c1.drew.drew.drew) (by decide) (by decide) (by decide) (by decide)).mono ?_; rintro e w5 ⟨rfl, c5⟩
  have k1 : ¬ n1 < -2147483648 := by omega
  have k2 : ¬ 2147483647 < n1 := by omega
  have k3 : ¬ n2 < -2147483648 := by omega
  have k4 : ¬ 2147483647 < n2 := by omega
  have e1 : showQ 0 0 = [99, 108, 105, 112, 115, 61, 48, 32, 110, 97, 110, 115, 61, 48] := by decide +kernel
  rw [e1]
  go_wp2
  repeat (go_region; go_wp2)
  go_ret
  exact ⟨rfl, (c1.drew.drew.drew.trans c5).nil.fin⟩

set_option maxRecDepth 100000 in
theorem lifted (os : Os) (started : os.Started) (H : Type) (enc : TypeId × Value → H) :
    ReturnsInHanded {} Tryd.checked os 9 .any (fun w args => (Rows.edgeOpenInt32Spec.pre enc Tryd.prog Tryd.f9 [] false w args ∧ laidMetH Tryd.prog laid3 w) ∧ sizedMet enc Tryd.prog Tryd.f9 (OpenSpec.ofChange Rows.edgeOpenInt32Spec) false w args)
      (Rows.edgeOpenInt32Spec.post enc Tryd.prog Tryd.f9 false true false false) := by
  refine returnsInHanded_of_change_and (C := Tryd.checked) (X := fun w _ => laidMetH Tryd.prog laid3 w) (fun _ _ _ hh h => h.of_heap hh) own started (by kernel_rfl) Tryd.func9
    (ChangeSpec.witness_shaped (enc := enc) (C := Tryd.checked) (os := os) (X := fun w _ => laidMetH Tryd.prog laid3 w) false (World.laidAll Tryd.prog os laid3) #[] 8 (World.laidAll_os _ _ _) (wit_shaped os) (by as_aux_lemma => kernel_rfl) (by as_aux_lemma => kernel_rfl) (by as_aux_lemma => kernel_rfl) (wit_met os _)) ?_
  intro W base args ds gs before hval0 hW _ _ hL _
  have hval : ∀ (j : Nat) t v, Tryd.f9.params[j]? = some t → args[j]? = some v → Value.okWide Tryd.prog W .any base t v := hval0
  have hW' := hW
  obtain ⟨p, q, hA0, hV, rfl, hfz, hnd⟩ := hW
  have hA : DataW.TrodAll enc Tryd.prog W 0 (fun _ => true) true Tryd.f9.params.toList args.toList ds p := hA0
  rw [Tryd.params9] at hA hval
  obtain ⟨rfl, rfl, rfl⟩ := trodAll_none hA
  obtain ⟨rfl, rfl⟩ := trodVars_none hV
  clear hA0 hval0
  simp only [List.append_nil] at hW'
  refine (walk W (tab_of_laid hL)).mono fun e W' ⟨he, hg⟩ => ?_
  subst he
  exact ⟨_, rfl, _, _, _, [], [], [], hW', (trodAll_cons_mk (shut_bool Tryd.underlying4 _) trodAll_mk0), rfl, rfl, hg.frame _, fun h => by cases h⟩

theorem row_holds : Rows.EdgeOpenInt32Said :=
  OpenClaim.holds_of_wide 9 Tryd.f9 rfl rfl rfl rfl rfl rfl rfl ⟨rfl, rfl, rfl, rfl, rfl⟩ rfl rfl rfl rfl rfl (by kernel_rfl) Tryd.func9 (by kernel_rfl)
    (of_decide_eq_true (by kernel_rfl)) (by unfold Func.isWrapper; first | (rw [if_pos (by decide +kernel)]; kernel_rfl) | (rw [if_neg (by decide +kernel)]; exact ⟨rfl, rfl⟩))
    (fun os started H enc _ => lifted os started H enc)

/-- THE STATEMENT -/
theorem proved : Rows.EdgeOpenInt32CardSaid :=
  Claim7.holds_tied_plain_at .later [] [.data, .data, .data] true (true, "7a27e1b282de908e130bfc6929fa6ababbeaaf87fc0ebd4a1023f2cf2f6af2a2") true
    row_holds (fun _ h => by cases h) (by kernel_rfl) (fun _ h => by cases h) edgeOpenInt32_row_tie rfl ⟨rfl, rfl⟩ (by kernel_rfl) rfl
    (fun f fn hf hfn => by
      obtain rfl : f = 9 := Option.some.inj ((show Tryd.prog.funcNamed Rows.edgeOpenInt32Row.func = some 9 by kernel_rfl).symm.trans hf) |>.symm
      obtain rfl : fn = Tryd.f9 := (Option.some.inj (Tryd.func9.symm.trans hfn)).symm
      exact ⟨by kernel_rfl, fun j t ht => by
        rw [Tryd.params9] at ht
        simp at ht⟩)
    (by kernel_rfl)
#print axioms proved
end Go.Proofs.Qxb6500378aDoor.edgeOpenInt32
