/- The loose calls. -/
import Derived.Test.Qxb6500376aGreatDoorChJudge
import Derived.Deep.QuietTactic
import Derived.BigQuiet
import Derived.LaidEqlPtr
import Derived.Deep.RegionWith
namespace Go.Proofs.Qxb6500376aGreatDoor
set_option linter.unusedVariables false
set_option linter.unusedSimpArgs false
open Go.RowKit Go.Qu

/-! ### the loose squelch -/
theorem judge0_zero (p : Nat) (l : Lk) (s : CS) (c z : Int) (w : World) (h : CA w p l s c z) : Calls Tryz.prog 75 #[.pointer (some ⟨p, 0, none⟩), .int .i32 0] w fun e w' => e = .returned (.pointer (some ⟨l.d0, 0, none⟩)) ∧ w' = w := by
  have h1 := h.c23
  clear h
  go_enter Tryz.func75, Tryz.ntmps75
  go_wp2
  go_ret
  exact ⟨rfl, rfl⟩
theorem judge0_sound (p : Nat) (l : Lk) (s : CS) (c z v : Int) (w : World) (h : CA w p l s c z) (hv : v ≠ 0) : Calls Tryz.prog 75 #[.pointer (some ⟨p, 0, none⟩), .int .i32 v] w fun e w' => e = .returned (.pointer (some ⟨l.k0, 0, none⟩)) ∧ w' = w := by
  have h1 := h.c22
  have h2 : (v == 0) = false := by simpa using hv
  clear h hv
  go_enter Tryz.func75, Tryz.ntmps75
  go_wp2
  go_ret
  exact ⟨rfl, rfl⟩
theorem mark_same (a : Addr) (w : World) : (binOp .eql 64 (.pointer (some a)) (.pointer (some a))).run Tryz.prog w = .ok (.bool true) w := by
  obtain ⟨j, hj⟩ := Option.isSome_iff_exists.1 (show (Tryz.prog.info? 66).isSome = true by kernel_rfl)
  exact run_eql_ptr_same w a Tryz.underlying64 hj
def zs (w : World) : Bool := decide (Question.zeroSizeEq.cut (w.tape w.drawn .zeroSizeEq) = 1)
theorem mark_other {a b : Addr} (hne : a ≠ b) (w : World) : (binOp .eql 64 (.pointer (some a)) (.pointer (some b))).run Tryz.prog w = .ok (.bool (zs w)) w.drew := by
  have hs : (Tryz.prog.info? 66).map (·.size) = some 0 := by kernel_rfl
  obtain ⟨j, hj⟩ := Option.isSome_iff_exists.1 (show (Tryz.prog.info? 66).isSome = true by kernel_rfl)
  rw [hj] at hs
  have hs' : j.size = 0 := by simpa using hs
  have h : ∀ d : Nat, (Op.equalIn (d + 1) 64 (.pointer (some a)) (.pointer (some b))).run Tryz.prog w = .ok (zs w) w.drew := fun d => by
    simp [Op.equalIn, run_underlying Tryz.underlying64, sizeOf, typeInfo, hj, hs', hne]
    rfl
  simp only [binOp]
  simp [Op.equal, Op.maxDepth, h 9999]

theorem squelchLoose_zero (p : Nat) (l : Lk) (s : CS) (c z v : Int) (w : World) (h : CA w p l s c z) (hv : wrap32 v = 0) : Calls Tryz.prog 53 #[.pointer (some ⟨p, 0, none⟩), .int .i64 v] w fun e w' =>
    e = .returned (.int .i64 1) ∧ CA w' p l { s with dropped := wrap64 (s.dropped + 1) } c z ∧ Chg (· = p) w w' := by
  have h1 := h.c18
  have h2 := h.frozen 18
  have h3 := h.c23
  have y1 := mark_same
  have hv2 : IntKind.i32.wrap v = 0 := by rw [IntKind.wrap_i32]; unfold wrap32 at hv; exact hv
  have H : Hid (CA w p l s c z) := h
  clear h
  go_enter Tryz.func53, Tryz.ntmps53
  go_wp2
  go_quiet ((go_at_call 75; refine (judge0_zero p l s c z _ (H.out.drewN _)).mono ?_; rintro e w'' ⟨rfl, rfl⟩; exact ⟨rfl, _, rfl⟩))
  go_wp2
  go_ret
  refine ⟨rfl, (H.out.drewN nq).move H.out.len (Chg.set1 _ p 18 _) ?_, ((Chg.refl _ _).drewN nq).trans (Chg.set1 _ p 18 _)⟩
  rw [← chCells_set_dropped l s H.out.len]; exact (H.out.drewN nq).obj.setCell 18 _

set_option maxHeartbeats 1000000 in
theorem squelchLoose_sound (p : Nat) (l : Lk) (s : CS) (c z v : Int) (w : World) (h : CA w p l s c z) (hv : wrap32 v ≠ 0) : Calls Tryz.prog 53 #[.pointer (some ⟨p, 0, none⟩), .int .i64 v] w fun e w' =>
    (e = .returned (.int .i64 1) ∧ CA w' p l { s with dropped := wrap64 (s.dropped + 1) } c z ∧ Chg (· = p) w w') ∨ (e = .returned (.int .i64 0) ∧ CA w' p l s c z ∧ Chg (· = p) w w') := by
  have h1 := h.c18
  have h2 := h.frozen 18
  have h3 := h.c23
  have y1 := fun w => mark_other (a := ⟨l.k0, 0, none⟩) (b := ⟨l.d0, 0, none⟩) (fun e => h.kd0 (congrArg Addr.block e)) w
  have H : Hid (CA w p l s c z) := h
  have HV : Hid (IntKind.i32.wrap v ≠ 0) := by rw [IntKind.wrap_i32]; unfold wrap32 at hv; exact hv
  clear h hv
  go_enter Tryz.func53, Tryz.ntmps53
  go_wp2
  go_region_with (go_at_call 75; refine (judge0_sound p l s c z _ _ (by exact H.out.drew) (by exact HV.out)).mono ?_; rintro e w'' ⟨rfl, rfl⟩)
  all_goals go_wp2
  all_goals go_ret
  all_goals first
    | exact Or.inl ⟨rfl, (H.out.set_dropped _).drew.drew, (Chg.set1 w p 18 _).drew.drew⟩
    | exact Or.inr ⟨rfl, H.out.drew.drew, (Chg.refl _ w).drew.drew⟩

set_option maxHeartbeats 1000000 in
theorem stampLoose_any (p : Nat) (l : Lk) (s : CS) (c z : Int) (w : World) (h : CA w p l s c z) : Calls Tryz.prog 50 #[.pointer (some ⟨p, 0, none⟩)] w fun e w' =>
    (∃ o, (o = s.seq ∨ o = wrap64 (s.seq + 1)) ∧ e = .returned (.tuple #[.int .i64 (IntKind.i64.wrap (IntKind.i64.wrap (o + wrap64 (s.seq + 1)) - wrap64 (s.seq + 1))), .int .i64 (wrap64 (s.seq + 1))])) ∧ CA w' p l { s with seq := wrap64 (s.seq + 1) } c z ∧ Chg (· = p) w w' := by
  have h1 := h.c17
  have H : Hid (CA w p l s c z) := h
  clear h
  go_enter Tryz.func50, Tryz.ntmps50
  go_wp2
  go_region_with (go_at_call 64; refine (next_any p l s c z _ (by exact H.out.drew)).mono ?_; rintro e w1 ⟨rfl, h2, c2⟩; have k1 := h2.c17; have K2 : Hid _ := h2; have C2 : Hid _ := c2; clear h2 c2)
  all_goals go_wp2
  all_goals go_quiet (fail)
  all_goals go_wp2
  all_goals go_ret2
  all_goals first
    | exact ⟨⟨s.seq, .inl rfl, rfl⟩, K2.out.drewN nq, ((Chg.refl (· = p) w).drew.trans C2.out).drewN nq⟩
    | exact ⟨⟨wrap64 (s.seq + 1), .inr rfl, rfl⟩, K2.out.drewN nq, ((Chg.refl (· = p) w).drew.trans C2.out).drewN nq⟩
end Go.Proofs.Qxb6500376aGreatDoor
