/- The tied card of EdgeTwoPipelines. -/
import Derived.Test.Qxb6500376aDoorCards
import Derived.Test.Qxb6500376aDoorTie
import Derived.Test.Qxb6500376aDoorDoorBase
import Derived.SevenTiedAt
import Derived.Test.Qxb6500376aDoorChShow
import Derived.BigRegion
namespace Go.Proofs.Qxb6500376aDoor.edgeTwoPipelines
open Go.ChangeShapes Go.WideShapes Go.ChangeAt Go.RowKit Go.Qu
set_option linter.unusedVariables false
set_option linter.unusedSimpArgs false

structure Under (B p : Nat) (l : Lk) : Prop where
  p : p < B
  q : l.q < B
  d : l.d < B
  k : l.k < B
  dr : l.dr < B
  k0 : l.k0 < B
  d0 : l.d0 < B
structure Over (B p : Nat) (l : Lk) : Prop where
  p : B ≤ p
  q : B ≤ l.q
  d : B ≤ l.d
  k : B ≤ l.k
  dr : B ≤ l.dr
  k0 : B ≤ l.k0
  d0 : B ≤ l.d0
theorem keepX {B : Nat} {w w' : World} {p p' : Nat} {l l' : Lk} {s : CS} {c z : Int} (h : CA w p l s c z) (hc : Chg (fun k => k = p' ∨ k = l'.q) w w') (u : Under B p l) (o : Over B p' l') : CA w' p l s c z := by
  obtain ⟨u1, u2, u3, u4, u5, u6, u7⟩ := u
  obtain ⟨o1, o2, _⟩ := o
  exact h.kept hc (by omega) (by omega) (by omega) (by omega) (by omega) (by omega) (by omega)
theorem keepY {B : Nat} {w w' : World} {p p' : Nat} {l l' : Lk} {s : CS} {c z : Int} (h : CA w p l s c z) (hc : Chg (fun k => k = p' ∨ k = l'.q) w w') (u : Over B p l) (o : Under B p' l') : CA w' p l s c z := by
  obtain ⟨u1, u2, u3, u4, u5, u6, u7⟩ := u
  obtain ⟨o1, o2, _⟩ := o
  exact h.kept hc (by omega) (by omega) (by omega) (by omega) (by omega) (by omega) (by omega)
theorem szx : Sized ⟨32, 0, 8, 4620693217682128896, 4620693217682128896, [8, 0, 0, 0, 0, 0, 0, 0], 1, 0, 64, 1, 0⟩ 0 0 := ⟨by unfold InI; decide, by unfold InI; decide, by decide, by unfold InI; decide, by unfold InI; decide, by unfold InI; decide, by decide, by unfold InI; decide, by unfold InI; decide⟩
theorem szy : Sized ⟨32, 0, 8, 4620693217682128896, 4620693217682128896, [8, 0, 0, 0, 0, 0, 0, 0], 1, 0, 64, 0, 0⟩ 0 0 := ⟨by unfold InI; decide, by unfold InI; decide, by decide, by unfold InI; decide, by unfold InI; decide, by unfold InI; decide, by decide, by unfold InI; decide, by unfold InI; decide⟩
theorem e1 : bs (showC ⟨32, 0, 8, 4620693217682128896, 4620693217682128896, [8, 0, 0, 0, 0, 0, 0, 0], 1, 0, 64, 1, 0⟩ 0 0) = ⟨#[100, 101, 112, 116, 104, 61, 51, 50, 32, 109, 111, 100, 101, 61, 48, 32, 115, 117, 109, 61, 56, 32, 112, 101, 97, 107, 61, 52, 54, 50, 48, 54, 57, 51, 50, 49, 55, 54, 56, 50, 49, 50, 56, 56, 57, 54, 32, 100, 105, 112, 61, 52, 54, 50, 48, 54, 57, 51, 50, 49, 55, 54, 56, 50, 49, 50, 56, 56, 57, 54, 32, 97, 116, 61, 49, 32, 56, 32, 48, 32, 48, 32, 48, 32, 48, 32, 48, 32, 48, 32, 48, 32, 115, 101, 113, 61, 49, 32, 100, 114, 111, 112, 112, 101, 100, 61, 48, 32, 124, 32, 99, 108, 105, 112, 115, 61, 48, 32, 110, 97, 110, 115, 61, 48]⟩ := congrArg bs (show showC ⟨32, 0, 8, 4620693217682128896, 4620693217682128896, [8, 0, 0, 0, 0, 0, 0, 0], 1, 0, 64, 1, 0⟩ 0 0 = [100, 101, 112, 116, 104, 61, 51, 50, 32, 109, 111, 100, 101, 61, 48, 32, 115, 117, 109, 61, 56, 32, 112, 101, 97, 107, 61, 52, 54, 50, 48, 54, 57, 51, 50, 49, 55, 54, 56, 50, 49, 50, 56, 56, 57, 54, 32, 100, 105, 112, 61, 52, 54, 50, 48, 54, 57, 51, 50, 49, 55, 54, 56, 50, 49, 50, 56, 56, 57, 54, 32, 97, 116, 61, 49, 32, 56, 32, 48, 32, 48, 32, 48, 32, 48, 32, 48, 32, 48, 32, 48, 32, 115, 101, 113, 61, 49, 32, 100, 114, 111, 112, 112, 101, 100, 61, 48, 32, 124, 32, 99, 108, 105, 112, 115, 61, 48, 32, 110, 97, 110, 115, 61, 48] by decide +kernel)
theorem e2 : bs (showC ⟨32, 0, 8, 4620693217682128896, 4620693217682128896, [8, 0, 0, 0, 0, 0, 0, 0], 1, 0, 64, 0, 0⟩ 0 0) = ⟨#[100, 101, 112, 116, 104, 61, 51, 50, 32, 109, 111, 100, 101, 61, 48, 32, 115, 117, 109, 61, 56, 32, 112, 101, 97, 107, 61, 52, 54, 50, 48, 54, 57, 51, 50, 49, 55, 54, 56, 50, 49, 50, 56, 56, 57, 54, 32, 100, 105, 112, 61, 52, 54, 50, 48, 54, 57, 51, 50, 49, 55, 54, 56, 50, 49, 50, 56, 56, 57, 54, 32, 97, 116, 61, 49, 32, 56, 32, 48, 32, 48, 32, 48, 32, 48, 32, 48, 32, 48, 32, 48, 32, 115, 101, 113, 61, 48, 32, 100, 114, 111, 112, 112, 101, 100, 61, 48, 32, 124, 32, 99, 108, 105, 112, 115, 61, 48, 32, 110, 97, 110, 115, 61, 48]⟩ := congrArg bs (show showC ⟨32, 0, 8, 4620693217682128896, 4620693217682128896, [8, 0, 0, 0, 0, 0, 0, 0], 1, 0, 64, 0, 0⟩ 0 0 = [100, 101, 112, 116, 104, 61, 51, 50, 32, 109, 111, 100, 101, 61, 48, 32, 115, 117, 109, 61, 56, 32, 112, 101, 97, 107, 61, 52, 54, 50, 48, 54, 57, 51, 50, 49, 55, 54, 56, 50, 49, 50, 56, 56, 57, 54, 32, 100, 105, 112, 61, 52, 54, 50, 48, 54, 57, 51, 50, 49, 55, 54, 56, 50, 49, 50, 56, 56, 57, 54, 32, 97, 116, 61, 49, 32, 56, 32, 48, 32, 48, 32, 48, 32, 48, 32, 48, 32, 48, 32, 48, 32, 115, 101, 113, 61, 48, 32, 100, 114, 111, 112, 112, 101, 100, 61, 48, 32, 124, 32, 99, 108, 105, 112, 115, 61, 48, 32, 110, 97, 110, 115, 61, 48] by decide +kernel)

theorem walk (w : World) (ht : Tab w) :
    Calls Tryd.prog 5 #[] w fun e w' => e = .returned (.bool true) ∧ Below w.heap.size w w' := by
  go_enter Tryd.func5, Tryd.ntmps5
  go_wp2_with fail
  refine (fresh_any _).mono ?_; rintro e w1 ⟨p, l, rfl, hx1, bp, bq, bd, bk, bdr, bk0, bd0, c1⟩
  have ux : Under w1.heap.size p l := ⟨hx1.obj.lt, hx1.qu.lt, hx1.tab.lt, hx1.k.lt, hx1.dr.lt, hx1.k0.lt, hx1.d0.lt⟩
  go_wp2_with fail
  refine (fresh_any _).mono ?_; rintro e w2 ⟨p', l', rfl, hy2, cp, cq, cd, ck, cdr, ck0, cd0, c2⟩
  have oy : Over w1.heap.size p' l' := ⟨cp, cq, cd, ck, cdr, ck0, cd0⟩
  have hx2 := hx1.kept c2 id id id id id id id
  have s12 := c1.size
  go_wp2_with fail
  refine (tune_at 32 0 ⟨32, 0, 0, 18442240474082181120, 9218868437227405312, [0, 0, 0, 0, 0, 0, 0, 0], 0, 0, 0, 0, 0⟩ hx2 (by decide +kernel)).mono ?_; rintro e w3 ⟨rfl, hx3, c3⟩
  have hy3 := keepY hy2 c3 oy ux
  replace c3 := Chg.both c3 bp bq
  go_wp2_with fail
  refine (tune_at 32 0 ⟨32, 0, 0, 18442240474082181120, 9218868437227405312, [0, 0, 0, 0, 0, 0, 0, 0], 0, 0, 0, 0, 0⟩ hy3 (by decide +kernel)).mono ?_; rintro e w4 ⟨rfl, hy4, c4⟩
  have hx4 := keepX hx3 c4 ux oy
  replace c4 := Chg.both c4 (Nat.le_trans s12 cp) (Nat.le_trans s12 cq)
  go_wp2_with fail
  refine (feedWith_keep_at 4620693217682128896 0 8 8 0 0 ⟨32, 0, 8, 4620693217682128896, 4620693217682128896, [8, 0, 0, 0, 0, 0, 0, 0], 1, 0, 64, 0, 0⟩ hx4 (by decide +kernel)).mono ?_; rintro e w5 ⟨rfl, hx5, c5⟩
  have hy5 := keepY hy4 c5 oy ux
  replace c5 := Chg.both c5 bp bq
  go_wp2_with fail
  refine (feedWith_keep_at 4620693217682128896 0 8 8 0 0 ⟨32, 0, 8, 4620693217682128896, 4620693217682128896, [8, 0, 0, 0, 0, 0, 0, 0], 1, 0, 64, 0, 0⟩ hy5 (by decide +kernel)).mono ?_; rintro e w6 ⟨rfl, hy6, c6⟩
  have hx6 := keepX hx5 c6 ux oy
  replace c6 := Chg.both c6 (Nat.le_trans s12 cp) (Nat.le_trans s12 cq)
  go_wp2_with fail
  refine (stamp_at 0 1 ⟨32, 0, 8, 4620693217682128896, 4620693217682128896, [8, 0, 0, 0, 0, 0, 0, 0], 1, 0, 64, 1, 0⟩ hx6 (by decide +kernel)).mono ?_; rintro e w7 ⟨rfl, hx7, c7⟩
  have hy7 := keepY hy6 c7 oy ux
  replace c7 := Chg.both c7 bp bq
  go_wp2_with fail
  refine (sum_at 8 hx7 (by decide +kernel)).mono ?_; rintro e w' ⟨rfl, rfl⟩
  go_wp2_with fail
  refine (sum_at 8 hy7 (by decide +kernel)).mono ?_; rintro e w' ⟨rfl, rfl⟩
  go_wp2_with fail
  refine (seq_at 1 hx7 rfl).mono ?_; rintro e w' ⟨rfl, rfl⟩
  go_wp2_with fail
  refine (seq_at 0 hy7 rfl).mono ?_; rintro e w' ⟨rfl, rfl⟩
  have C := ((((((c1.nil (B := w.heap.size)).trans c2.nil).trans c3).trans c4).trans c5).trans c6).trans c7
  have T7 := ht.kept C.fin
  go_wp2_with fail
  refine (chShow_any _ _ _ _ _ _ hx7 szx T7).mono ?_; rintro e w8 ⟨rfl, hx8, c8⟩
  have hy8 := hy7.kept c8 id id id id id id id
  have T8 := T7.nil c8
  go_wp2_with fail
  refine (chShow_any _ _ _ _ _ _ hy8 szy T8).mono ?_; rintro e w9 ⟨rfl, hy9, c9⟩
  rw [e1, e2]
  go_wp2
  repeat (go_region; go_wp2)
  go_ret
  exact ⟨rfl, ((C.trans c8.nil).trans c9.nil).fin⟩

set_option maxRecDepth 100000 in
theorem lifted (os : Os) (started : os.Started) (H : Type) (enc : TypeId × Value → H) :
    ReturnsInHanded {} Tryd.checked os 5 .any (fun w args => (Rows.edgeTwoPipelinesSpec.pre enc Tryd.prog Tryd.f5 [] false w args ∧ laidMetH Tryd.prog laid3 w) ∧ sizedMet enc Tryd.prog Tryd.f5 (OpenSpec.ofChange Rows.edgeTwoPipelinesSpec) false w args)
      (Rows.edgeTwoPipelinesSpec.post enc Tryd.prog Tryd.f5 false true false false) := by
  refine returnsInHanded_of_change_and (C := Tryd.checked) (X := fun w _ => laidMetH Tryd.prog laid3 w) (fun _ _ _ hh h => h.of_heap hh) own started (by kernel_rfl) Tryd.func5
    (ChangeSpec.witness_shaped (enc := enc) (C := Tryd.checked) (os := os) (X := fun w _ => laidMetH Tryd.prog laid3 w) false (World.laidAll Tryd.prog os laid3) #[] 8 (World.laidAll_os _ _ _) (wit_shaped os) (by as_aux_lemma => kernel_rfl) (by as_aux_lemma => kernel_rfl) (by as_aux_lemma => kernel_rfl) (wit_met os _)) ?_
  intro W base args ds gs before hval0 hW _ _ hL _
  have hval : ∀ (j : Nat) t v, Tryd.f5.params[j]? = some t → args[j]? = some v → Value.okWide Tryd.prog W .any base t v := hval0
  have hW' := hW
  obtain ⟨p, q, hA0, hV, rfl, hfz, hnd⟩ := hW
  have hA : DataW.TrodAll enc Tryd.prog W 0 (fun _ => true) true Tryd.f5.params.toList args.toList ds p := hA0
  rw [Tryd.params5] at hA hval
  obtain ⟨rfl, rfl, rfl⟩ := trodAll_none hA
  obtain ⟨rfl, rfl⟩ := trodVars_none hV
  clear hA0 hval0
  simp only [List.append_nil] at hW'
  refine (walk W (tab_of_laid hL)).mono fun e W' ⟨he, hg⟩ => ?_
  subst he
  exact ⟨_, rfl, _, _, _, [], [], [], hW', (trodAll_cons_mk (shut_bool Tryd.underlying4 _) trodAll_mk0), rfl, rfl, hg.frame _, fun h => by cases h⟩

theorem row_holds : Rows.EdgeTwoPipelinesSaid :=
  OpenClaim.holds_of_wide 5 Tryd.f5 rfl rfl rfl rfl rfl rfl rfl ⟨rfl, rfl, rfl, rfl, rfl⟩ rfl rfl rfl rfl rfl (by kernel_rfl) Tryd.func5 (by kernel_rfl)
    (of_decide_eq_true (by kernel_rfl)) (by unfold Func.isWrapper; first | (rw [if_pos (by decide +kernel)]; kernel_rfl) | (rw [if_neg (by decide +kernel)]; exact ⟨rfl, rfl⟩))
    (fun os started H enc _ => lifted os started H enc)

/-- THE STATEMENT -/
theorem proved : Rows.EdgeTwoPipelinesCardSaid :=
  Claim7.holds_tied_plain_at .later [] [.data, .data, .data] true (true, "a54315fc9a6490aa1bf0213e19b19b72c7e1f2952953a361d8b334fd2c637a37") false
    row_holds (fun _ h => by cases h) (by kernel_rfl) (fun _ h => by cases h) edgeTwoPipelines_row_tie rfl ⟨rfl, rfl⟩ (by kernel_rfl) rfl
    (fun f fn hf hfn => by
      obtain rfl : f = 5 := Option.some.inj ((show Tryd.prog.funcNamed Rows.edgeTwoPipelinesRow.func = some 5 by kernel_rfl).symm.trans hf) |>.symm
      obtain rfl : fn = Tryd.f5 := (Option.some.inj (Tryd.func5.symm.trans hfn)).symm
      exact ⟨by kernel_rfl, fun j t ht => by
        rw [Tryd.params5] at ht
        simp at ht⟩)
    (by kernel_rfl)
#print axioms proved
end Go.Proofs.Qxb6500376aDoor.edgeTwoPipelines
