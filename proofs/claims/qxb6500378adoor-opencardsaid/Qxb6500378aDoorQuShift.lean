/- FastShift: the boundary that turns Go's own panic into an answer. -/
import Derived.Test.Qxb6500378aDoorQuFast
import Derived.Test.Qxb6500378aDoorDefer
import Derived.Laws.Panics
import Derived.LaidEql
namespace Go.Proofs.Qxb6500378aDoor
set_option linter.unusedVariables false
set_option linter.unusedSimpArgs false
open Go.RowKit Go.Qu

theorem catch_panicking (p q : Addr) (x y : Int) (u : TypeId) (pv : Value) (older : List PanicEntry) (w : World) (hc : w.cell? p = some (.int .i64 x)) (hz : w.frozen? p = false) (hc2 : w.cell? q = some (.int .i64 y)) (hz2 : w.frozen? q = false) (hpq : p ≠ q)
    (hta : ∀ w, (Instr.typeAssert (.iface u pv) 20 88 true).run Tryd.prog w = .ok (.tuple #[.iface u pv, .bool true]) w) :
    CallsD Tryd.prog 93 #[.pointer (some p), .pointer (some q)] (.panicking ({ v := .iface u pv, recovered := false } :: older)) w fun e u' w' =>
      e = .returned (.tuple #[]) ∧ u' = .panicking ({ v := .iface u pv, recovered := true } :: older) ∧ w' = (w.setCell p (.int .i64 8)).setCell q (.int .i64 0) := by
  have k1 : ∀ v, (w.setCell p v).cell? q = some (.int .i64 y) := fun v => by rw [World.cell?_setCell_other w p q v hpq, hc2]
  refine callsD_of_wpS Tryd.func93 rfl fun c₀ cs hu => ?_
  apply wpS_seq
  apply wpS_region
  simp [wpOpsS, go_sem, recoverD, hu, Tryd.ntmps93, Exit.thenS]
  have e0 : (#[Value.pointer (some p), Value.pointer (some q)] ++ ((Array.replicate 14 undef).setIfInBounds 3 (Value.iface u pv)).setIfInBounds 0 (Value.iface u pv)) = #[Value.pointer (some p), Value.pointer (some q), Value.iface u pv, undef, undef, Value.iface u pv, undef, undef, undef, undef, undef, undef, undef, undef, undef, undef] := rfl
  rw [e0]
  clear e0
  refine wpS_of_wp ?_
  go_wp2
  simp [bodyPostS, results, Tryd.results93]

theorem catch_idle (p q : Addr) (w : World) :
    CallsD Tryd.prog 93 #[.pointer (some p), .pointer (some q)] .returning w fun e u' w' => e = .returned (.tuple #[]) ∧ u' = .returning ∧ w' = w := by
  refine callsD_of_wpS Tryd.func93 rfl fun c₀ cs hu => ?_
  apply wpS_seq
  apply wpS_region
  simp [wpOpsS, go_sem, recoverD, hu, Tryd.ntmps93, Exit.thenS]
  have e0 : (#[Value.pointer (some p), Value.pointer (some q)] ++ ((Array.replicate 14 undef).setIfInBounds 3 Value.nilIface).setIfInBounds 0 Value.nilIface) = #[Value.pointer (some p), Value.pointer (some q), Value.nilIface, undef, undef, Value.nilIface, undef, undef, undef, undef, undef, undef, undef, undef, undef, undef] := rfl
  rw [e0]
  clear e0
  refine wpS_of_wp ?_
  go_wp2
  cases c₀
  simp_all [bodyPostS, results, Tryd.results93]

theorem neg_shift (x n : Int) (hn : n < 0) (w : World) : (Op.shift .shl .i32 x .i64 n).run Tryd.prog w = .halt (.panic (.iface 10 (strVal "negative shift amount"))) w := by
  unfold Op.shift
  rw [if_pos hn]
  kernel_rfl
theorem own_error (s : ByteArray) (w : World) : (Instr.typeAssert (.iface 10 (.string s)) 20 88 true).run Tryd.prog w = .ok (.tuple #[.iface 10 (.string s), .bool true]) w := by kernel_rfl

theorem res_fastShift (d : Nat) (v : Value) (h6 : d ≠ 6) (h7 : d ≠ 7) (t : Array Value) : results Tryd.f74 (t.setIfInBounds d v) = results Tryd.f74 t := by
  have e : Tryd.f74.results = #[.cell 6 27, .cell 7 3] := by kernel_rfl
  unfold results
  rw [e]
  simp [Array.getD_eq_getD_getElem?, Array.getElem?_setIfInBounds, h6, h7]
theorem fastShift_neg (p : Nat) (v n : Int) (w : World) (hn : n < 0) : Calls Tryd.prog 74 #[.pointer (some ⟨p, 0, none⟩), .int .i64 v, .int .i64 n] w fun e w' => e = .returned (.tuple #[.int .i64 8, .int .i64 0]) ∧ Chg (fun _ => False) w w' := by
  have hmf : ∀ (fn : Fn) (first cap : Array Value) (w : World), (Instr.makeFunc fn first cap).run Tryd.prog w = .ok (.func fn first cap) w := fun _ _ _ _ => rfl
  have y1 := fun x w => neg_shift x n hn w
  clear hn
  go_enter_defers Tryd.func74, Tryd.ntmps74
  go_wp2
  refine wp_region_any (by kernel_rfl) ?_
  change wpAny _ _ _ _ _ _ _ (World.drew _)
  refine wpAny_take (i := 0) (v := .int .i64 v) rfl (by kernel_rfl) (by kernel_rfl) (by kernel_rfl) (fun c a w h => put_panic (res_fastShift 9 _ (by decide) (by decide)) c a w h) (Or.inl ⟨by rfl, fun w => by rfl⟩) ?_
  refine wpAny_take (i := 1) (v := .int .i32 (IntKind.i32.wrap v)) rfl (by kernel_rfl) (by kernel_rfl) (by kernel_rfl) (fun c a w h => put_panic (res_fastShift 10 _ (by decide) (by decide)) c a w h) (Or.inl ⟨by rfl, fun w => by go_simp⟩) ?_
  refine wpAny_take (i := 2) (v := .int .i64 n) rfl (by kernel_rfl) (by kernel_rfl) (by kernel_rfl) (fun c a w h => put_panic (res_fastShift 11 _ (by decide) (by decide)) c a w h) (Or.inl ⟨by rfl, fun w => by rfl⟩) ?_
  refine wpAny_ready (rs := [3, 5]) (by kernel_rfl) (by simp) ?_
  refine AllReady.cons rfl (fun K hK => ?_) ?_
  · go_simp
    clear hK K
    show bodyPostD Tryd.prog Tryd.f74 _ (Exit.panic _) _ _
    refine leaves_cons (f := 93) (args := #[.pointer (some ⟨w.heap.size, 0, none⟩), .pointer (some ⟨w.heap.size + 1, 0, none⟩)]) (by simp) (by simp [go_sem]) ?_
    refine (catch_panicking ⟨w.heap.size, 0, none⟩ ⟨w.heap.size + 1, 0, none⟩ 0 0 10 _ [] _ (by simp [go_sem]) (by simp [go_sem]) (by simp [go_sem]) (by simp [go_sem]) (by simp) (own_error _)).mono ?_
    rintro e u' w'' ⟨rfl, rfl, rfl⟩
    simp [Leaves, settle, results, Tryd.results74, go_sem]
    exact (((Chg.refl _ _).alloc _).alloc _).drew
  refine AllReady.cons rfl (fun K hK => ?_) AllReady.nil
  go_simp
  refine hK _ _ ?_
  clear hK K
  refine wpAny_ready (rs := [3]) (by kernel_rfl) (by simp) ?_
  refine AllReady.cons rfl (fun K hK => ?_) AllReady.nil
  · go_simp
    clear hK K
    show bodyPostD Tryd.prog Tryd.f74 _ (Exit.panic _) _ _
    refine leaves_cons (f := 93) (args := #[.pointer (some ⟨w.heap.size, 0, none⟩), .pointer (some ⟨w.heap.size + 1, 0, none⟩)]) (by simp) (by simp [go_sem]) ?_
    refine (catch_panicking ⟨w.heap.size, 0, none⟩ ⟨w.heap.size + 1, 0, none⟩ 0 0 10 _ [] _ (by simp [go_sem]) (by simp [go_sem]) (by simp [go_sem]) (by simp [go_sem]) (by simp) (own_error _)).mono ?_
    rintro e u' w'' ⟨rfl, rfl, rfl⟩
    simp [Leaves, settle, results, Tryd.results74, go_sem]
    exact (((Chg.refl _ _).alloc _).alloc _).drew
end Go.Proofs.Qxb6500378aDoor
