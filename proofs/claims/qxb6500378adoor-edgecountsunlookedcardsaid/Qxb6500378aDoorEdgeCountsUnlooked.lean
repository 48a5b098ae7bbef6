/- The tied card of EdgeCountsUnlooked. -/
import Derived.Test.Qxb6500378aDoorCards
import Derived.Test.Qxb6500378aDoorTie
import Derived.Test.Qxb6500378aDoorDoorBase
import Derived.SevenTiedAt
import Derived.Test.Qxb6500378aDoorQuAt
namespace Go.Proofs.Qxb6500378aDoor.edgeCountsUnlooked
open Go.ChangeShapes Go.WideShapes Go.ChangeAt Go.RowKit Go.Qu
set_option linter.unusedVariables false
set_option linter.unusedSimpArgs false


theorem walk (w : World) (ht : Tab w) :
    Calls Tryd.prog 15 #[] w fun e w' => e = .returned (.bool true) ∧ Below w.heap.size w w' := by
  go_enter Tryd.func15, Tryd.ntmps15
  go_wp2_with fail
  refine (new_any _).mono ?_; rintro e w1 ⟨rfl, q1, s1, c1⟩
  go_wp2_with fail
  refine (r32_at 9218868437227405312 _ 2147483647 1 q1 (by decide +kernel)).mono ?_; rintro e w2 ⟨rfl, q2, c2⟩
  go_wp2_with fail
  refine (narrow_at (-4503599627370496) 4286578687 2 q2 (by decide +kernel)).mono ?_; rintro e w3 ⟨rfl, q3, c3⟩
  go_wp2_with fail
  refine (round16_nan _ 9221120237041090560 _ _ _ _ (by decide) (by decide) (by decide +kernel) q3).mono ?_; rintro e w4 ⟨rfl, rfl⟩
  have q4 := q3.setCell 1 (.int .i64 (wrap64 (0 + 1)))
  have c4 := Chg.set1 w3 w.heap.size 1 (.int .i64 (wrap64 (0 + 1)))
  generalize w3.setCell ⟨w.heap.size, 1, none⟩ (.int .i64 (wrap64 (0 + 1))) = w4 at q4 c4 ⊢
  have C := ((c1.nil.trans (c2.at (Nat.le_refl _))).trans (c3.at (Nat.le_refl _))).trans (c4.at (Nat.le_refl _))
  go_wp2_with fail
  refine (show_any _ _ _ _ q4 (ht.kept C.fin) (by decide +kernel) (by decide +kernel) (by decide +kernel) (by decide +kernel)).mono ?_; rintro e w6 ⟨rfl, c6⟩
  have e1 : showQ 2 (wrap64 (0 + 1)) = [99, 108, 105, 112, 115, 61, 50, 32, 110, 97, 110, 115, 61, 49] := by decide +kernel
  rw [e1]
  go_wp2
  repeat (go_region; go_wp2)
  go_ret
  exact ⟨rfl, (C.trans c6.nil).fin⟩

set_option maxRecDepth 100000 in
theorem lifted (os : Os) (started : os.Started) (H : Type) (enc : TypeId × Value → H) :
    ReturnsInHanded {} Tryd.checked os 15 .any (fun w args => (Rows.edgeCountsUnlookedSpec.pre enc Tryd.prog Tryd.f15 [] false w args ∧ laidMetH Tryd.prog laid3 w) ∧ sizedMet enc Tryd.prog Tryd.f15 (OpenSpec.ofChange Rows.edgeCountsUnlookedSpec) false w args)
      (Rows.edgeCountsUnlookedSpec.post enc Tryd.prog Tryd.f15 false true false false) := by
  refine returnsInHanded_of_change_and (C := Tryd.checked) (X := fun w _ => laidMetH Tryd.prog laid3 w) (fun _ _ _ hh h => h.of_heap hh) own started (by kernel_rfl) Tryd.func15
    (ChangeSpec.witness_shaped (enc := enc) (C := Tryd.checked) (os := os) (X := fun w _ => laidMetH Tryd.prog laid3 w) false (World.laidAll Tryd.prog os laid3) #[] 8 (World.laidAll_os _ _ _) (wit_shaped os) (by as_aux_lemma => kernel_rfl) (by as_aux_lemma => kernel_rfl) (by as_aux_lemma => kernel_rfl) (wit_met os _)) ?_
  intro W base args ds gs before hval0 hW _ _ hL _
  have hval : ∀ (j : Nat) t v, Tryd.f15.params[j]? = some t → args[j]? = some v → Value.okWide Tryd.prog W .any base t v := hval0
  have hW' := hW
  obtain ⟨p, q, hA0, hV, rfl, hfz, hnd⟩ := hW
  have hA : DataW.TrodAll enc Tryd.prog W 0 (fun _ => true) true Tryd.f15.params.toList args.toList ds p := hA0
  rw [Tryd.params15] at hA hval
  obtain ⟨rfl, rfl, rfl⟩ := trodAll_none hA
  obtain ⟨rfl, rfl⟩ := trodVars_none hV
  clear hA0 hval0
  simp only [List.append_nil] at hW'
  refine (walk W (tab_of_laid hL)).mono fun e W' ⟨he, hg⟩ => ?_
  subst he
  exact ⟨_, rfl, _, _, _, [], [], [], hW', (trodAll_cons_mk (shut_bool Tryd.underlying4 _) trodAll_mk0), rfl, rfl, hg.frame _, fun h => by cases h⟩

theorem row_holds : Rows.EdgeCountsUnlookedSaid :=
  OpenClaim.holds_of_wide 15 Tryd.f15 rfl rfl rfl rfl rfl rfl rfl ⟨rfl, rfl, rfl, rfl, rfl⟩ rfl rfl rfl rfl rfl (by kernel_rfl) Tryd.func15 (by kernel_rfl)
    (of_decide_eq_true (by kernel_rfl)) (by unfold Func.isWrapper; first | (rw [if_pos (by decide +kernel)]; kernel_rfl) | (rw [if_neg (by decide +kernel)]; exact ⟨rfl, rfl⟩))
    (fun os started H enc _ => lifted os started H enc)

/-- THE STATEMENT -/
theorem proved : Rows.EdgeCountsUnlookedCardSaid :=
  Claim7.holds_tied_plain_at .later [] [.data, .data, .data] true (true, "7a27e1b282de908e130bfc6929fa6ababbeaaf87fc0ebd4a1023f2cf2f6af2a2") true
    row_holds (fun _ h => by cases h) (by kernel_rfl) (fun _ h => by cases h) edgeCountsUnlooked_row_tie rfl ⟨rfl, rfl⟩ (by kernel_rfl) rfl
    (fun f fn hf hfn => by
      obtain rfl : f = 15 := Option.some.inj ((show Tryd.prog.funcNamed Rows.edgeCountsUnlookedRow.func = some 15 by kernel_rfl).symm.trans hf) |>.symm
      obtain rfl : fn = Tryd.f15 := (Option.some.inj (Tryd.func15.symm.trans hfn)).symm
      exact ⟨by kernel_rfl, fun j t ht => by
        rw [Tryd.params15] at ht
        simp at ht⟩)
    (by kernel_rfl)
#print axioms proved
end Go.Proofs.Qxb6500378aDoor.edgeCountsUnlooked
